/- Part 6 of the road to this seat's statements: lemmas about a small interpreter over the model's code, and about the functions that it is used on. No condition of its own. -/
import Derived.Test.YtpeplcbngnedbaaProg
import Derived.ProofKit
import Derived.OpenShut
import Derived.Carry
import Derived.Deep.Slices
import Derived.Test.YtpeplcbngnedbaaW5

section
/- Conditions and their equations, printed by a program: fifth part. -/
open Go.Proofs
set_option maxRecDepth 100000
set_option linter.unusedVariables false
namespace Go.Abs.King
def vc17  (k : AVal → List Cont → Prop) : Prop :=
  (Go.Abs.King.v50.p ()) ∧
  (Go.Abs.King.v51.p ()) ∧
  (Go.Abs.King.v47.p (((1 : Int) :: ((2 : Int) :: ([] : List Int))), ())) ∧
  (Go.Abs.King.v18.p ((3 : Int), ((((0 : Int) :: ((0 : Int) :: ((1 : Int) :: ([] : List Int)))) :: (((0 : Int) :: ((1 : Int) :: ((1 : Int) :: ([] : List Int)))) :: (((1 : Int) :: ((0 : Int) :: ((0 : Int) :: ([] : List Int)))) :: (((1 : Int) :: ((1 : Int) :: ((1 : Int) :: ([] : List Int)))) :: ([] : List (List Int)))))), (((1 : Int) :: ((2 : Int) :: ([] : List Int))), ())))) ∧
  (Go.Abs.King.v47.p (((0 : Int) :: ((1 : Int) :: ([] : List Int))), ())) ∧
  (Go.Abs.King.v18.p ((3 : Int), ((((0 : Int) :: ((0 : Int) :: ((1 : Int) :: ([] : List Int)))) :: (((0 : Int) :: ((1 : Int) :: ((1 : Int) :: ([] : List Int)))) :: (((1 : Int) :: ((0 : Int) :: ((0 : Int) :: ([] : List Int)))) :: (((1 : Int) :: ((1 : Int) :: ((1 : Int) :: ([] : List Int)))) :: ([] : List (List Int)))))), (((0 : Int) :: ((1 : Int) :: ([] : List Int))), ())))) ∧
  (Go.Abs.King.v47.p (((1 : Int) :: ((0 : Int) :: ([] : List Int))), ())) ∧
  (Go.Abs.King.v18.p ((3 : Int), ((((0 : Int) :: ((0 : Int) :: ((1 : Int) :: ([] : List Int)))) :: (((0 : Int) :: ((1 : Int) :: ((1 : Int) :: ([] : List Int)))) :: (((1 : Int) :: ((0 : Int) :: ((0 : Int) :: ([] : List Int)))) :: (((1 : Int) :: ((1 : Int) :: ((1 : Int) :: ([] : List Int)))) :: ([] : List (List Int)))))), (((1 : Int) :: ((0 : Int) :: ([] : List Int))), ())))) ∧
  (Go.Abs.King.v47.p (((0 : Int) :: ((1 : Int) :: ([] : List Int))), ())) ∧
  (Go.Abs.King.v18.p ((2 : Int), ((((0 : Int) :: ((0 : Int) :: ([] : List Int))) :: (((1 : Int) :: ((1 : Int) :: ([] : List Int))) :: (((0 : Int) :: ((0 : Int) :: ([] : List Int))) :: ([] : List (List Int))))), (((0 : Int) :: ((1 : Int) :: ([] : List Int))), ())))) ∧
  (Go.Abs.King.v25.p ((3 : Int), ((((0 : Int) :: ((0 : Int) :: ((1 : Int) :: ([] : List Int)))) :: (((0 : Int) :: ((1 : Int) :: ((1 : Int) :: ([] : List Int)))) :: (((1 : Int) :: ((0 : Int) :: ((0 : Int) :: ([] : List Int)))) :: (((1 : Int) :: ((1 : Int) :: ((1 : Int) :: ([] : List Int)))) :: ([] : List (List Int)))))), ()))) ∧
  (Go.Abs.King.v25.p ((2 : Int), ((((0 : Int) :: ((0 : Int) :: ([] : List Int))) :: (((1 : Int) :: ((1 : Int) :: ([] : List Int))) :: (((0 : Int) :: ((0 : Int) :: ([] : List Int))) :: ([] : List (List Int))))), ()))) ∧
  (Go.Abs.King.v27.p ((3 : Int), ((((0 : Int) :: ((0 : Int) :: ((1 : Int) :: ([] : List Int)))) :: (((0 : Int) :: ((1 : Int) :: ((1 : Int) :: ([] : List Int)))) :: (((1 : Int) :: ((0 : Int) :: ((0 : Int) :: ([] : List Int)))) :: (((1 : Int) :: ((1 : Int) :: ((1 : Int) :: ([] : List Int)))) :: ([] : List (List Int)))))), ()))) ∧
  (Go.Abs.King.v47.p (((-(1 : Int) : Int) :: ((1 : Int) :: ((-(1 : Int) : Int) :: ([] : List Int)))), ())) ∧
  (Go.Abs.King.v20.p ((3 : Int), ((((0 : Int) :: ((0 : Int) :: ((1 : Int) :: ([] : List Int)))) :: (((0 : Int) :: ((1 : Int) :: ((1 : Int) :: ([] : List Int)))) :: (((1 : Int) :: ((0 : Int) :: ((0 : Int) :: ([] : List Int)))) :: (((1 : Int) :: ((1 : Int) :: ((1 : Int) :: ([] : List Int)))) :: ([] : List (List Int)))))), (((-(1 : Int) : Int) :: ((1 : Int) :: ((-(1 : Int) : Int) :: ([] : List Int)))), ())))) ∧
  (Go.Abs.King.v47.p (((-(1 : Int) : Int) :: ((-(1 : Int) : Int) :: ([] : List Int))), ())) ∧
  (Go.Abs.King.v20.p ((3 : Int), ((((0 : Int) :: ((0 : Int) :: ((1 : Int) :: ([] : List Int)))) :: (((0 : Int) :: ((1 : Int) :: ((1 : Int) :: ([] : List Int)))) :: (((1 : Int) :: ((0 : Int) :: ((0 : Int) :: ([] : List Int)))) :: (((1 : Int) :: ((1 : Int) :: ((1 : Int) :: ([] : List Int)))) :: ([] : List (List Int)))))), (((-(1 : Int) : Int) :: ((-(1 : Int) : Int) :: ([] : List Int))), ())))) ∧
  (Go.Abs.King.v47.p (((5 : Int) :: ((-(1 : Int) : Int) :: ((-(1 : Int) : Int) :: ([] : List Int)))), ())) ∧
  (Go.Abs.King.v20.p ((3 : Int), ((((0 : Int) :: ((0 : Int) :: ((1 : Int) :: ([] : List Int)))) :: (((0 : Int) :: ((1 : Int) :: ((1 : Int) :: ([] : List Int)))) :: (((1 : Int) :: ((0 : Int) :: ((0 : Int) :: ([] : List Int)))) :: (((1 : Int) :: ((1 : Int) :: ((1 : Int) :: ([] : List Int)))) :: ([] : List (List Int)))))), (((5 : Int) :: ((-(1 : Int) : Int) :: ((-(1 : Int) : Int) :: ([] : List Int)))), ())))) ∧
  (Go.Abs.King.v47.p (((-(1 : Int) : Int) :: ((-(1 : Int) : Int) :: ((-(1 : Int) : Int) :: ([] : List Int)))), ())) ∧
  (Go.Abs.King.v30.p ((3 : Int), ((((0 : Int) :: ((0 : Int) :: ((1 : Int) :: ([] : List Int)))) :: (((0 : Int) :: ((1 : Int) :: ((1 : Int) :: ([] : List Int)))) :: (((1 : Int) :: ((0 : Int) :: ((0 : Int) :: ([] : List Int)))) :: (((1 : Int) :: ((1 : Int) :: ((1 : Int) :: ([] : List Int)))) :: ([] : List (List Int)))))), (((-(1 : Int) : Int) :: ((-(1 : Int) : Int) :: ((-(1 : Int) : Int) :: ([] : List Int)))), ())))) ∧
  (Go.Abs.King.v47.p (((-(1 : Int) : Int) :: ((-(1 : Int) : Int) :: ([] : List Int))), ())) ∧
  (Go.Abs.King.v30.p ((2 : Int), ((((0 : Int) :: ((0 : Int) :: ([] : List Int))) :: (((1 : Int) :: ((1 : Int) :: ([] : List Int))) :: (((0 : Int) :: ((0 : Int) :: ([] : List Int))) :: ([] : List (List Int))))), (((-(1 : Int) : Int) :: ((-(1 : Int) : Int) :: ([] : List Int))), ())))) ∧
  (Go.Abs.King.v47.p (((-(1 : Int) : Int) :: ((1 : Int) :: ((-(1 : Int) : Int) :: ([] : List Int)))), ())) ∧
  (Go.Abs.King.v32.p ((3 : Int), ((((0 : Int) :: ((0 : Int) :: ((1 : Int) :: ([] : List Int)))) :: (((0 : Int) :: ((1 : Int) :: ((1 : Int) :: ([] : List Int)))) :: (((1 : Int) :: ((0 : Int) :: ((0 : Int) :: ([] : List Int)))) :: (((1 : Int) :: ((1 : Int) :: ((1 : Int) :: ([] : List Int)))) :: ([] : List (List Int)))))), (((-(1 : Int) : Int) :: ((1 : Int) :: ((-(1 : Int) : Int) :: ([] : List Int)))), ())))) ∧
  (Go.Abs.King.v47.p (((1 : Int) :: ((1 : Int) :: ((-(1 : Int) : Int) :: ([] : List Int)))), ())) ∧
  (Go.Abs.King.v32.p ((3 : Int), ((((0 : Int) :: ((0 : Int) :: ((1 : Int) :: ([] : List Int)))) :: (((0 : Int) :: ((1 : Int) :: ((1 : Int) :: ([] : List Int)))) :: (((1 : Int) :: ((0 : Int) :: ((0 : Int) :: ([] : List Int)))) :: (((1 : Int) :: ((1 : Int) :: ((1 : Int) :: ([] : List Int)))) :: ([] : List (List Int)))))), (((1 : Int) :: ((1 : Int) :: ((-(1 : Int) : Int) :: ([] : List Int)))), ())))) ∧
  (Go.Abs.King.v47.p (((-(1 : Int) : Int) :: ((-(1 : Int) : Int) :: ([] : List Int))), ())) ∧
  (Go.Abs.King.v32.p ((2 : Int), ((((0 : Int) :: ((0 : Int) :: ([] : List Int))) :: (((1 : Int) :: ((1 : Int) :: ([] : List Int))) :: (((0 : Int) :: ((0 : Int) :: ([] : List Int))) :: ([] : List (List Int))))), (((-(1 : Int) : Int) :: ((-(1 : Int) : Int) :: ([] : List Int))), ())))) ∧
  (Go.Abs.King.v53.p ((0 : Int), ())) ∧
  (Go.Abs.King.v35.p ((3 : Int), ((((0 : Int) :: ((0 : Int) :: ((1 : Int) :: ([] : List Int)))) :: (((0 : Int) :: ((1 : Int) :: ((1 : Int) :: ([] : List Int)))) :: (((1 : Int) :: ((0 : Int) :: ((0 : Int) :: ([] : List Int)))) :: (((1 : Int) :: ((1 : Int) :: ((1 : Int) :: ([] : List Int)))) :: ([] : List (List Int)))))), ((((0 : Int), ((1 : Int) :: ((2 : Int) :: ((-(1 : Int) : Int) :: ((-(1 : Int) : Int) :: ((-(1 : Int) : Int) :: ([] : List Int))))))) :: (((1 : Int), ((-(2 : Int) : Int) :: ((-(3 : Int) : Int) :: ((-(1 : Int) : Int) :: ((-(1 : Int) : Int) :: ((-(1 : Int) : Int) :: ([] : List Int))))))) :: (((1 : Int), ((-(4 : Int) : Int) :: ((-(5 : Int) : Int) :: ((-(1 : Int) : Int) :: ((-(1 : Int) : Int) :: ((-(1 : Int) : Int) :: ([] : List Int))))))) :: ([] : List (Int × (List Int)))))), ())))) ∧
  (Go.Abs.King.v53.p ((0 : Int), ())) ∧
  (((0 : Int) ≤ (2 : Int)) ∧ ((2 : Int) ≤ (((List.length (((0 : Int), ((1 : Int) :: ((2 : Int) :: ((-(1 : Int) : Int) :: ((-(1 : Int) : Int) :: ((-(1 : Int) : Int) :: ([] : List Int))))))) :: (((1 : Int), ((-(2 : Int) : Int) :: ((-(3 : Int) : Int) :: ((-(1 : Int) : Int) :: ((-(1 : Int) : Int) :: ((-(1 : Int) : Int) :: ([] : List Int))))))) :: (((1 : Int), ((-(4 : Int) : Int) :: ((-(5 : Int) : Int) :: ((-(1 : Int) : Int) :: ((-(1 : Int) : Int) :: ((-(1 : Int) : Int) :: ([] : List Int))))))) :: ([] : List (Int × (List Int))))))) : Nat) : Int))) ∧
  (Go.Abs.King.v35.p ((3 : Int), ((((0 : Int) :: ((0 : Int) :: ((1 : Int) :: ([] : List Int)))) :: (((0 : Int) :: ((1 : Int) :: ((1 : Int) :: ([] : List Int)))) :: (((1 : Int) :: ((0 : Int) :: ((0 : Int) :: ([] : List Int)))) :: (((1 : Int) :: ((1 : Int) :: ((1 : Int) :: ([] : List Int)))) :: ([] : List (List Int)))))), ((List.take (Int.toNat (2 : Int)) (((0 : Int), ((1 : Int) :: ((2 : Int) :: ((-(1 : Int) : Int) :: ((-(1 : Int) : Int) :: ((-(1 : Int) : Int) :: ([] : List Int))))))) :: (((1 : Int), ((-(2 : Int) : Int) :: ((-(3 : Int) : Int) :: ((-(1 : Int) : Int) :: ((-(1 : Int) : Int) :: ((-(1 : Int) : Int) :: ([] : List Int))))))) :: (((1 : Int), ((-(4 : Int) : Int) :: ((-(5 : Int) : Int) :: ((-(1 : Int) : Int) :: ((-(1 : Int) : Int) :: ((-(1 : Int) : Int) :: ([] : List Int))))))) :: ([] : List (Int × (List Int))))))), ())))) ∧
  (Go.Abs.King.v53.p ((2 : Int), ())) ∧
  (Go.Abs.King.v35.p ((3 : Int), ((((0 : Int) :: ((0 : Int) :: ((1 : Int) :: ([] : List Int)))) :: (((0 : Int) :: ((1 : Int) :: ((1 : Int) :: ([] : List Int)))) :: (((1 : Int) :: ((0 : Int) :: ((0 : Int) :: ([] : List Int)))) :: (((1 : Int) :: ((1 : Int) :: ((1 : Int) :: ([] : List Int)))) :: ([] : List (List Int)))))), ((((2 : Int), ((1 : Int) :: ((2 : Int) :: ((-(1 : Int) : Int) :: ((-(1 : Int) : Int) :: ((-(1 : Int) : Int) :: ([] : List Int))))))) :: (((1 : Int), ((-(2 : Int) : Int) :: ((-(3 : Int) : Int) :: ((-(1 : Int) : Int) :: ((-(1 : Int) : Int) :: ((-(1 : Int) : Int) :: ([] : List Int))))))) :: (((1 : Int), ((-(4 : Int) : Int) :: ((-(5 : Int) : Int) :: ((-(1 : Int) : Int) :: ((-(1 : Int) : Int) :: ((-(1 : Int) : Int) :: ([] : List Int))))))) :: ([] : List (Int × (List Int)))))), ())))) ∧
  (Go.Abs.King.v35.p ((3 : Int), ((((0 : Int) :: ((0 : Int) :: ((1 : Int) :: ([] : List Int)))) :: (((0 : Int) :: ((1 : Int) :: ((1 : Int) :: ([] : List Int)))) :: (((1 : Int) :: ((0 : Int) :: ((0 : Int) :: ([] : List Int)))) :: (((1 : Int) :: ((1 : Int) :: ((1 : Int) :: ([] : List Int)))) :: ([] : List (List Int)))))), (([] : List (Int × (List Int))), ())))) ∧
  (Go.Abs.King.v37.p ((3 : Int), ((((0 : Int) :: ((0 : Int) :: ((1 : Int) :: ([] : List Int)))) :: (((0 : Int) :: ((1 : Int) :: ((1 : Int) :: ([] : List Int)))) :: (((1 : Int) :: ((0 : Int) :: ((0 : Int) :: ([] : List Int)))) :: (((1 : Int) :: ((1 : Int) :: ((1 : Int) :: ([] : List Int)))) :: ([] : List (List Int)))))), ()))) ∧
  (Go.Abs.King.v37.p ((2 : Int), ((((0 : Int) :: ((0 : Int) :: ([] : List Int))) :: (((1 : Int) :: ((1 : Int) :: ([] : List Int))) :: (((0 : Int) :: ((0 : Int) :: ([] : List Int))) :: ([] : List (List Int))))), ()))) ∧
  (Go.Abs.King.v36.p ((3 : Int), ((((0 : Int) :: ((0 : Int) :: ((1 : Int) :: ([] : List Int)))) :: (((0 : Int) :: ((1 : Int) :: ((1 : Int) :: ([] : List Int)))) :: (((1 : Int) :: ((0 : Int) :: ((0 : Int) :: ([] : List Int)))) :: (((1 : Int) :: ((1 : Int) :: ((1 : Int) :: ([] : List Int)))) :: ([] : List (List Int)))))), ((Go.Abs.King.madeT (3 : Int) (((0 : Int) :: ((0 : Int) :: ((1 : Int) :: ([] : List Int)))) :: (((0 : Int) :: ((1 : Int) :: ((1 : Int) :: ([] : List Int)))) :: (((1 : Int) :: ((0 : Int) :: ((0 : Int) :: ([] : List Int)))) :: (((1 : Int) :: ((1 : Int) :: ((1 : Int) :: ([] : List Int)))) :: ([] : List (List Int))))))), ())))) ∧
  (Go.Abs.King.v47.p (((0 : Int) :: ((1 : Int) :: ([] : List Int))), ())) ∧
  (Go.Abs.King.v54.p ((((0 : Int) :: ((1 : Int) :: ([] : List Int))) :: ([] : List (List Int))), ())) ∧
  (Go.Abs.King.v29.p ((Go.Abs.King.fewL (3 : Int) (((0 : Int) :: ((0 : Int) :: ((1 : Int) :: ([] : List Int)))) :: (((0 : Int) :: ((1 : Int) :: ((1 : Int) :: ([] : List Int)))) :: (((1 : Int) :: ((0 : Int) :: ((0 : Int) :: ([] : List Int)))) :: (((1 : Int) :: ((1 : Int) :: ((1 : Int) :: ([] : List Int)))) :: ([] : List (List Int))))))), ((((0 : Int) :: ((1 : Int) :: ([] : List Int))) :: ([] : List (List Int))), ()))) ∧
  (Go.Abs.King.v47.p (((0 : Int) :: ((1 : Int) :: ([] : List Int))), ())) ∧
  (Go.Abs.King.v24.p ((Go.Abs.King.neededL (3 : Int) (((0 : Int) :: ((0 : Int) :: ((1 : Int) :: ([] : List Int)))) :: (((0 : Int) :: ((1 : Int) :: ((1 : Int) :: ([] : List Int)))) :: (((1 : Int) :: ((0 : Int) :: ((0 : Int) :: ([] : List Int)))) :: (((1 : Int) :: ((1 : Int) :: ((1 : Int) :: ([] : List Int)))) :: ([] : List (List Int))))))), (((0 : Int) :: ((1 : Int) :: ([] : List Int))), ()))) ∧
  (Go.Abs.King.v47.p (((1 : Int) :: ((3 : Int) :: ([] : List Int))), ())) ∧
  (Go.Abs.King.v24.p ((Go.Abs.King.seenL (3 : Int) (((0 : Int) :: ((0 : Int) :: ((1 : Int) :: ([] : List Int)))) :: (((0 : Int) :: ((1 : Int) :: ((1 : Int) :: ([] : List Int)))) :: (((1 : Int) :: ((0 : Int) :: ((0 : Int) :: ([] : List Int)))) :: (((1 : Int) :: ((1 : Int) :: ((1 : Int) :: ([] : List Int)))) :: ([] : List (List Int)))))) ((-(1 : Int) : Int) :: ((1 : Int) :: ((-(1 : Int) : Int) :: ([] : List Int))))), (((1 : Int) :: ((3 : Int) :: ([] : List Int))), ()))) ∧
  (k (Go.Abs.AVal.bool ((Go.Abs.King.treeN2 (3 : Int) (((0 : Int) :: ((0 : Int) :: ((1 : Int) :: ([] : List Int)))) :: (((0 : Int) :: ((1 : Int) :: ((1 : Int) :: ([] : List Int)))) :: (((1 : Int) :: ((0 : Int) :: ((0 : Int) :: ([] : List Int)))) :: (((1 : Int) :: ((1 : Int) :: ((1 : Int) :: ([] : List Int)))) :: ([] : List (List Int)))))) (Go.Abs.King.madeT (3 : Int) (((0 : Int) :: ((0 : Int) :: ((1 : Int) :: ([] : List Int)))) :: (((0 : Int) :: ((1 : Int) :: ((1 : Int) :: ([] : List Int)))) :: (((1 : Int) :: ((0 : Int) :: ((0 : Int) :: ([] : List Int)))) :: (((1 : Int) :: ((1 : Int) :: ((1 : Int) :: ([] : List Int)))) :: ([] : List (List Int)))))))) == (2 : Int))) [])
theorem eq17  (k : AVal → List Cont → Prop) : awpF (envOf [(50, mkC [v50]), (51, mkC [v51]), (47, mkC [v47]), (54, mkC [v54]), (53, mkC [v53]), (18, mkC [v18]), (25, mkC [v25]), (27, mkC [v27]), (20, mkC [v20]), (30, mkC [v30]), (32, mkC [v32]), (35, mkC [v35]), (37, mkC [v37]), (36, mkC [v36]), (29, mkC [v29]), (24, mkC [v24])]) Try.prog kt 17 false Try.f17 (v17.S.enc Unit ()).1 [] k = vc17  k := by kernel_rfl
theorem tx17 : (Try.f17.body.map Code.textsOk).getD true = true := by kernel_rfl

def vc40 (m : Int) (pots : List (List Int)) (k : AVal → List Cont → Prop) : Prop :=
  (Go.Abs.King.v15.p (m, (pots, ()))) ∧
  br (((Bool.not (Go.Abs.King.great pots)) == Bool.true))
   ((Go.Abs.King.v23.p (m, (pots, ()))) ∧
   (k (Go.Abs.AVal.bool ((Go.Abs.King.checkShelf m pots) == (0 : Int))) []))
   ((k (Go.Abs.AVal.bool Bool.false) []))
theorem eq40 (m : Int) (pots : List (List Int)) (k : AVal → List Cont → Prop) : awpF (envOf [(15, mkC [v15]), (23, mkC [v23])]) Try.prog kt 40 false Try.f40 (v40.S.enc Unit (m, pots, ())).1 [] k = vc40 m pots k := by kernel_rfl
theorem tx40 : (Try.f40.body.map Code.textsOk).getD true = true := by kernel_rfl

def vc42 (m : Int) (pots : List (List Int)) (k : AVal → List Cont → Prop) : Prop :=
  (Go.Abs.King.v25.p (m, (pots, ()))) ∧
  br (((Go.Abs.King.fewE m pots) != (0 : Int)))
   (br ((((Go.Abs.King.fewE m pots) == (27 : Int)) == Bool.true))
    ((k (Go.Abs.AVal.tup ((Go.Abs.AVal.reg (0 : Nat) Bool.false) :: ((Go.Abs.AVal.bool Bool.false) :: ((Go.Abs.AVal.bool ((((List.length (Go.Abs.King.fewL m pots)) : Nat) : Int) == (0 : Int))) :: [])))) ((Go.Abs.Cont.sl (Go.Abs.Ty.slice (Go.Abs.Ty.int Go.IntKind.i64)) ([] : List (List Int))) :: [])))
    ((k (Go.Abs.AVal.tup ((Go.Abs.AVal.reg (0 : Nat) Bool.false) :: ((Go.Abs.AVal.bool Bool.false) :: ((Go.Abs.AVal.bool Bool.false) :: [])))) ((Go.Abs.Cont.sl (Go.Abs.Ty.slice (Go.Abs.Ty.int Go.IntKind.i64)) ([] : List (List Int))) :: []))))
   (br ((((((List.length (Go.Abs.King.fewL m pots)) : Nat) : Int) == (0 : Int)) == Bool.false))
    (br ((decide ((((List.length (Go.Abs.King.fewL m pots)) : Nat) : Int) > (64 : Int))))
     ((k (Go.Abs.AVal.tup ((Go.Abs.AVal.reg (0 : Nat) Bool.false) :: ((Go.Abs.AVal.bool Bool.false) :: ((Go.Abs.AVal.bool Bool.false) :: [])))) ((Go.Abs.Cont.sl (Go.Abs.Ty.slice (Go.Abs.Ty.int Go.IntKind.i64)) ([] : List (List Int))) :: [])))
     (Go.Abs.Loop (σ := (Int × (Int × ((List (List Int)) × ((List (List Int)) × Unit))))) (fun K3 x3 =>
       br ((decide (x3.1 < (((List.length x3.2.2.2.1) : Nat) : Int))))
        ((((0 : Int) ≤ x3.1) ∧ ((Int.toNat x3.1) < (List.length x3.2.2.2.1))) ∧
        ∃ h5 : ((Int.toNat x3.1) < (List.length x3.2.2.2.1)),
        (Go.Abs.King.v43.p ((x3.2.2.2.1[(Int.toNat x3.1)]'h5), (x3.2.1, ()))) ∧
        br (((Bool.not (Go.Abs.King.isList (x3.2.2.2.1[(Int.toNat x3.1)]'h5) x3.2.1)) == Bool.false))
         ((((0 : Int) ≤ x3.1) ∧ ((Int.toNat x3.1) < (List.length x3.2.2.2.1))) ∧
         ∃ h6 : ((Int.toNat x3.1) < (List.length x3.2.2.2.1)),
         (((0 : Int) ≤ (0 : Int)) ∧ ((Int.toNat (0 : Int)) < (List.length x3.2.2.2.1))) ∧
         ∃ h7 : ((Int.toNat (0 : Int)) < (List.length x3.2.2.2.1)),
         br (((((List.length (x3.2.2.2.1[(Int.toNat x3.1)]'h6)) : Nat) : Int) != (((List.length (x3.2.2.2.1[(Int.toNat (0 : Int))]'h7)) : Nat) : Int)))
          ((k (Go.Abs.AVal.tup ((Go.Abs.AVal.reg (0 : Nat) Bool.false) :: ((Go.Abs.AVal.bool Bool.false) :: ((Go.Abs.AVal.bool Bool.false) :: [])))) ((Go.Abs.Cont.sl (Go.Abs.Ty.slice (Go.Abs.Ty.int Go.IntKind.i64)) ([] : List (List Int))) :: [])))
          ((((0 : Int) ≤ x3.1) ∧ ((Int.toNat x3.1) < (List.length x3.2.2.2.1))) ∧
          ∃ h8 : ((Int.toNat x3.1) < (List.length x3.2.2.2.1)),
          (Go.Abs.King.v18.p (x3.2.1, (x3.2.2.1, ((x3.2.2.2.1[(Int.toNat x3.1)]'h8), ())))) ∧
          br (((Go.Abs.King.hardN x3.2.1 x3.2.2.1 (x3.2.2.2.1[(Int.toNat x3.1)]'h8)) != (5 : Int)))
           ((k (Go.Abs.AVal.tup ((Go.Abs.AVal.reg (0 : Nat) Bool.false) :: ((Go.Abs.AVal.bool Bool.false) :: ((Go.Abs.AVal.bool Bool.false) :: [])))) ((Go.Abs.Cont.sl (Go.Abs.Ty.slice (Go.Abs.Ty.int Go.IntKind.i64)) ([] : List (List Int))) :: [])))
           ((Go.Abs.fitsK Go.IntKind.i64 (x3.1 + (1 : Int))) ∧
           (K3 ((x3.1 + (1 : Int)), (x3.2.1, (x3.2.2.1, (x3.2.2.2.1, ()))))))))
         ((k (Go.Abs.AVal.tup ((Go.Abs.AVal.reg (0 : Nat) Bool.false) :: ((Go.Abs.AVal.bool Bool.false) :: ((Go.Abs.AVal.bool Bool.false) :: [])))) ((Go.Abs.Cont.sl (Go.Abs.Ty.slice (Go.Abs.Ty.int Go.IntKind.i64)) ([] : List (List Int))) :: []))))
        ((k (Go.Abs.AVal.tup ((Go.Abs.AVal.reg (0 : Nat) Bool.false) :: ((Go.Abs.AVal.bool Bool.true) :: ((Go.Abs.AVal.bool Bool.true) :: [])))) ((Go.Abs.Cont.sl (Go.Abs.Ty.slice (Go.Abs.Ty.int Go.IntKind.i64)) x3.2.2.2.1) :: [])))) (((0 : Int), (m, (pots, ((Go.Abs.King.fewL m pots), ())))))))
    ((k (Go.Abs.AVal.tup ((Go.Abs.AVal.reg (0 : Nat) Bool.false) :: ((Go.Abs.AVal.bool Bool.false) :: ((Go.Abs.AVal.bool Bool.false) :: [])))) ((Go.Abs.Cont.sl (Go.Abs.Ty.slice (Go.Abs.Ty.int Go.IntKind.i64)) ([] : List (List Int))) :: []))))
theorem eq42 (m : Int) (pots : List (List Int)) (k : AVal → List Cont → Prop) : awpF (envOf [(25, mkC [v25]), (43, mkC [v43]), (18, mkC [v18])]) Try.prog kt 42 false Try.f42 (v42.S.enc Unit (m, pots, ())).1 [] k = vc42 m pots k := by kernel_rfl
theorem tx42 : (Try.f42.body.map Code.textsOk).getD true = true := by kernel_rfl

def vc3 (m : Int) (pots : List (List Int)) (marks seen : List Int) (k : AVal → List Cont → Prop) : Prop :=
  (Go.Abs.King.v15.p (m, (pots, ()))) ∧
  br (((Go.Abs.King.great pots) == Bool.false))
   ((Go.Abs.King.v16.p (marks, ())) ∧
   br (((Go.Abs.King.longL marks) == Bool.false))
    ((Go.Abs.King.v16.p (seen, ())) ∧
    br ((Go.Abs.King.longL seen))
     ((Go.Abs.King.v17.p ()) ∧
     (k (Go.Abs.AVal.bool Bool.true) []))
     ((Go.Abs.King.v18.p (m, (pots, (marks, ())))) ∧
     (Go.Abs.King.v19.p (m, (pots, (marks, ())))) ∧
     (Go.Abs.King.v20.p (m, (pots, (seen, ())))) ∧
     (Go.Abs.King.v21.p (m, (pots, (seen, ())))) ∧
     (Go.Abs.King.v22.p (m, (pots, ()))) ∧
     (Go.Abs.King.v23.p (m, (pots, ()))) ∧
     br ((((Go.Abs.King.checkShelf m pots) == (Go.Abs.King.checkShelf m pots)) == Bool.true))
      (br ((((Go.Abs.King.hardX m pots marks) == (Go.Abs.King.hardX m pots marks)) == Bool.true))
       (br ((((Go.Abs.King.hardY m pots marks) == (Go.Abs.King.hardY m pots marks)) == Bool.true))
        (br ((((Go.Abs.King.hardN m pots marks) == (Go.Abs.King.hardN m pots marks)) == Bool.true))
         ((Go.Abs.King.v24.p ((Go.Abs.King.seenL m pots seen), ((Go.Abs.King.seenL m pots seen), ()))) ∧
         br (((Go.Abs.King.eqL (Go.Abs.King.seenL m pots seen) (Go.Abs.King.seenL m pots seen)) == Bool.true))
          (br ((((Go.Abs.King.seenErr m pots seen) == (Go.Abs.King.seenErr m pots seen)) == Bool.true))
           ((Go.Abs.King.v17.p ()) ∧
           (k (Go.Abs.AVal.bool Bool.true) []))
           ((k (Go.Abs.AVal.bool Bool.false) [])))
          ((k (Go.Abs.AVal.bool Bool.false) [])))
         ((k (Go.Abs.AVal.bool Bool.false) [])))
        ((k (Go.Abs.AVal.bool Bool.false) [])))
       ((k (Go.Abs.AVal.bool Bool.false) [])))
      ((k (Go.Abs.AVal.bool Bool.false) []))))
    ((Go.Abs.King.v17.p ()) ∧
    (k (Go.Abs.AVal.bool Bool.true) [])))
   ((Go.Abs.King.v17.p ()) ∧
   (k (Go.Abs.AVal.bool Bool.true) []))
theorem eq3 (m : Int) (pots : List (List Int)) (marks seen : List Int) (k : AVal → List Cont → Prop) : awpF (envOf [(15, mkC [v15]), (16, mkC [v16]), (17, mkC [v17]), (18, mkC [v18]), (19, mkC [v19]), (20, mkC [v20]), (21, mkC [v21]), (22, mkC [v22]), (23, mkC [v23]), (24, mkC [v24])]) Try.prog kt 3 false Try.f3 (v3.S.enc Unit (m, pots, marks, seen, ())).1 [] k = vc3 m pots marks seen k := by kernel_rfl
theorem tx3 : (Try.f3.body.map Code.textsOk).getD true = true := by kernel_rfl

def vc4 (m : Int) (pots : List (List Int)) (k : AVal → List Cont → Prop) : Prop :=
  (Go.Abs.King.v15.p (m, (pots, ()))) ∧
  br ((Go.Abs.King.great pots))
   ((Go.Abs.King.v17.p ()) ∧
   (k (Go.Abs.AVal.bool Bool.true) []))
   ((Go.Abs.King.v25.p (m, (pots, ()))) ∧
   (Go.Abs.King.v26.p (m, (pots, ()))) ∧
   (Go.Abs.King.v27.p (m, (pots, ()))) ∧
   (Go.Abs.King.v28.p (m, (pots, ()))) ∧
   (Go.Abs.King.v29.p ((Go.Abs.King.fewL m pots), ((Go.Abs.King.fewL m pots), ()))) ∧
   br (((Go.Abs.King.eqLL (Go.Abs.King.fewL m pots) (Go.Abs.King.fewL m pots)) == Bool.true))
    (br ((((Go.Abs.King.fewE m pots) == (Go.Abs.King.fewE m pots)) == Bool.true))
     ((Go.Abs.King.v24.p ((Go.Abs.King.neededL m pots), ((Go.Abs.King.neededL m pots), ()))) ∧
     br (((Go.Abs.King.eqL (Go.Abs.King.neededL m pots) (Go.Abs.King.neededL m pots)) == Bool.true))
      (br ((((Go.Abs.King.checkShelf m pots) == (Go.Abs.King.checkShelf m pots)) == Bool.true))
       ((Go.Abs.King.v17.p ()) ∧
       (k (Go.Abs.AVal.bool Bool.true) []))
       ((k (Go.Abs.AVal.bool Bool.false) [])))
      ((k (Go.Abs.AVal.bool Bool.false) [])))
     ((k (Go.Abs.AVal.bool Bool.false) [])))
    ((k (Go.Abs.AVal.bool Bool.false) [])))
theorem eq4 (m : Int) (pots : List (List Int)) (k : AVal → List Cont → Prop) : awpF (envOf [(15, mkC [v15]), (17, mkC [v17]), (25, mkC [v25]), (26, mkC [v26]), (27, mkC [v27]), (28, mkC [v28]), (24, mkC [v24]), (29, mkC [v29])]) Try.prog kt 4 false Try.f4 (v4.S.enc Unit (m, pots, ())).1 [] k = vc4 m pots k := by kernel_rfl
theorem tx4 : (Try.f4.body.map Code.textsOk).getD true = true := by kernel_rfl

def vc5 (m : Int) (pots : List (List Int)) (seen : List Int) (k : AVal → List Cont → Prop) : Prop :=
  (Go.Abs.King.v15.p (m, (pots, ()))) ∧
  br (((Go.Abs.King.great pots) == Bool.false))
   ((Go.Abs.King.v16.p (seen, ())) ∧
   br ((Go.Abs.King.longL seen))
    ((Go.Abs.King.v17.p ()) ∧
    (k (Go.Abs.AVal.bool Bool.true) []))
    ((Go.Abs.King.v30.p (m, (pots, (seen, ())))) ∧
    (Go.Abs.King.v31.p (m, (pots, (seen, ())))) ∧
    (Go.Abs.King.v32.p (m, (pots, (seen, ())))) ∧
    (Go.Abs.King.v33.p (m, (pots, (seen, ())))) ∧
    br ((((Go.Abs.King.looksE m pots seen) == (Go.Abs.King.looksE m pots seen)) == Bool.true))
     (br ((((Go.Abs.King.seenErr m pots seen) == (Go.Abs.King.seenErr m pots seen)) == Bool.true))
      (br ((((Go.Abs.King.nextN m pots seen) == (Go.Abs.King.nextN m pots seen)) == Bool.true))
       (br ((((Go.Abs.King.nextE m pots seen) == (Go.Abs.King.nextE m pots seen)) == Bool.true))
        ((Go.Abs.King.v17.p ()) ∧
        (k (Go.Abs.AVal.bool Bool.true) []))
        ((k (Go.Abs.AVal.bool Bool.false) [])))
       ((k (Go.Abs.AVal.bool Bool.false) [])))
      ((k (Go.Abs.AVal.bool Bool.false) [])))
     ((k (Go.Abs.AVal.bool Bool.false) []))))
   ((Go.Abs.King.v17.p ()) ∧
   (k (Go.Abs.AVal.bool Bool.true) []))
theorem eq5 (m : Int) (pots : List (List Int)) (seen : List Int) (k : AVal → List Cont → Prop) : awpF (envOf [(15, mkC [v15]), (16, mkC [v16]), (17, mkC [v17]), (30, mkC [v30]), (31, mkC [v31]), (32, mkC [v32]), (33, mkC [v33])]) Try.prog kt 5 false Try.f5 (v5.S.enc Unit (m, pots, seen, ())).1 [] k = vc5 m pots seen k := by kernel_rfl
theorem tx5 : (Try.f5.body.map Code.textsOk).getD true = true := by kernel_rfl

def vc6 (m : Int) (pots : List (List Int)) (t : List (Int × List Int)) (k : AVal → List Cont → Prop) : Prop :=
  (Go.Abs.King.v15.p (m, (pots, ()))) ∧
  br (((Go.Abs.King.great pots) == Bool.false))
   ((Go.Abs.King.v34.p (t, ())) ∧
   br ((Go.Abs.King.wide t))
    ((Go.Abs.King.v17.p ()) ∧
    (k (Go.Abs.AVal.bool Bool.true) []))
    ((Go.Abs.King.v35.p (m, (pots, (t, ())))) ∧
    (Go.Abs.King.v36.p (m, (pots, (t, ())))) ∧
    (Go.Abs.King.v37.p (m, (pots, ()))) ∧
    (Go.Abs.King.v38.p (m, (pots, ()))) ∧
    br ((((Go.Abs.King.treeN m pots t) != (Go.Abs.King.treeN2 m pots t)) == Bool.false))
     (br ((((Go.Abs.King.treeE m pots t) != (Go.Abs.King.treeE m pots t)) == Bool.false))
      (br ((((Go.Abs.King.madeE m pots) != (Go.Abs.King.treeErrE m pots)) == Bool.false))
       ((Go.Abs.King.v34.p ((Go.Abs.King.madeT m pots), ())) ∧
       br ((Go.Abs.King.wide (Go.Abs.King.madeT m pots)))
        ((k (Go.Abs.AVal.bool Bool.false) []))
        (br (((Go.Abs.King.treeErrE m pots) != (0 : Int)))
         (br ((((((List.length (Go.Abs.King.madeT m pots)) : Nat) : Int) == (0 : Int)) == Bool.true))
          ((Go.Abs.King.v17.p ()) ∧
          (k (Go.Abs.AVal.bool Bool.true) []))
          ((k (Go.Abs.AVal.bool Bool.false) [])))
         ((Go.Abs.King.v36.p (m, (pots, ((Go.Abs.King.madeT m pots), ())))) ∧
         br ((((Go.Abs.King.treeE m pots (Go.Abs.King.madeT m pots)) == (0 : Int)) == Bool.true))
          ((Go.Abs.King.v39.p (m, (pots, ()))) ∧
          ((0 : Int) ≤ (((List.length pots) : Nat) : Int)) ∧
          (Go.Abs.fitsK Go.IntKind.i64 ((Go.Abs.shlA Go.IntKind.i64 (1 : Int) (((List.length pots) : Nat) : Int)) - (1 : Int))) ∧
          (((0 : Int) ≤ ((Go.Abs.shlA Go.IntKind.i64 (1 : Int) (((List.length pots) : Nat) : Int)) - (1 : Int))) ∧ ((Int.toNat ((Go.Abs.shlA Go.IntKind.i64 (1 : Int) (((List.length pots) : Nat) : Int)) - (1 : Int))) < (List.length (Go.Abs.King.looksAll m pots)))) ∧
          ∃ h4 : ((Int.toNat ((Go.Abs.shlA Go.IntKind.i64 (1 : Int) (((List.length pots) : Nat) : Int)) - (1 : Int))) < (List.length (Go.Abs.King.looksAll m pots))),
          br ((((Go.Abs.King.treeN2 m pots (Go.Abs.King.madeT m pots)) == ((Go.Abs.King.looksAll m pots)[(Int.toNat ((Go.Abs.shlA Go.IntKind.i64 (1 : Int) (((List.length pots) : Nat) : Int)) - (1 : Int)))]'h4)) == Bool.true))
           ((Go.Abs.King.v17.p ()) ∧
           (k (Go.Abs.AVal.bool Bool.true) []))
           ((k (Go.Abs.AVal.bool Bool.false) [])))
          ((k (Go.Abs.AVal.bool Bool.false) [])))))
       ((k (Go.Abs.AVal.bool Bool.false) [])))
      ((k (Go.Abs.AVal.bool Bool.false) [])))
     ((k (Go.Abs.AVal.bool Bool.false) []))))
   ((Go.Abs.King.v17.p ()) ∧
   (k (Go.Abs.AVal.bool Bool.true) []))
theorem eq6 (m : Int) (pots : List (List Int)) (t : List (Int × List Int)) (k : AVal → List Cont → Prop) : awpF (envOf [(15, mkC [v15]), (34, mkC [v34]), (17, mkC [v17]), (35, mkC [v35]), (36, mkC [v36]), (37, mkC [v37]), (38, mkC [v38]), (39, mkC [v39])]) Try.prog kt 6 false Try.f6 (v6.S.enc Unit (m, pots, t, ())).1 [] k = vc6 m pots t k := by kernel_rfl
theorem tx6 : (Try.f6.body.map Code.textsOk).getD true = true := by kernel_rfl

def vc26 (m : Int) (pots : List (List Int)) (k : AVal → List Cont → Prop) : Prop :=
  (Go.Abs.King.v23.p (m, (pots, ()))) ∧
  br (((Go.Abs.King.checkShelf m pots) != (0 : Int)))
   ((Go.Abs.King.v23.p (m, (pots, ()))) ∧
   (k (Go.Abs.AVal.tup ((Go.Abs.AVal.reg (0 : Nat) Bool.false) :: ((Go.Abs.AVal.int Go.IntKind.i64 (Go.Abs.King.checkShelf m pots)) :: []))) ((Go.Abs.Cont.sl (Go.Abs.Ty.slice (Go.Abs.Ty.int Go.IntKind.i64)) ([] : List (List Int))) :: [])))
   ((Go.Abs.fitsK Go.IntKind.i64 (m + (1 : Int))) ∧
   Go.Abs.Loop (σ := (Int × (Int × (Int × ((List (List Int)) × ((List (List Int)) × Unit)))))) (fun K3 x3 =>
     ((0 : Int) ≤ x3.2.2.1) ∧
     br ((decide (x3.2.1 < (Go.Abs.shlA Go.IntKind.i64 (1 : Int) x3.2.2.1))))
      ((Go.Abs.King.v41.p (x3.2.1, (x3.2.2.1, ()))) ∧
      (Go.Abs.King.v58.p (x3.2.2.1, (x3.2.2.2.1, ((Go.Abs.King.listed (Int.toNat x3.2.1) (Int.toNat x3.2.2.1)), ())))) ∧
      br (((Go.Abs.King.hardB x3.2.2.2.1 (Go.Abs.King.listed (Int.toNat x3.2.1) (Int.toNat x3.2.2.1))) == Bool.false))
       (br ((decide ((((List.length (Go.Abs.King.listed (Int.toNat x3.2.1) (Int.toNat x3.2.2.1))) : Nat) : Int) > x3.1)))
        ((Go.Abs.fitsK Go.IntKind.i64 (x3.2.1 + (1 : Int))) ∧
        (K3 (x3.1, ((x3.2.1 + (1 : Int)), (x3.2.2.1, (x3.2.2.2.1, (x3.2.2.2.2.1, ())))))))
        (br ((decide ((((List.length (Go.Abs.King.listed (Int.toNat x3.2.1) (Int.toNat x3.2.2.1))) : Nat) : Int) < x3.1)))
         ((((List.length ([] : List (List Int))) + (List.length ((Go.Abs.King.listed (Int.toNat x3.2.1) (Int.toNat x3.2.2.1)) :: ([] : List (List Int))))) ≤ Go.Abs.big) ∧
         (Go.Abs.fitsK Go.IntKind.i64 (x3.2.1 + (1 : Int))) ∧
         (K3 ((((List.length (Go.Abs.King.listed (Int.toNat x3.2.1) (Int.toNat x3.2.2.1))) : Nat) : Int), ((x3.2.1 + (1 : Int)), (x3.2.2.1, (x3.2.2.2.1, ((([] : List (List Int)) ++ ((Go.Abs.King.listed (Int.toNat x3.2.1) (Int.toNat x3.2.2.1)) :: ([] : List (List Int)))), ())))))))
         ((((List.length x3.2.2.2.2.1) + (List.length ((Go.Abs.King.listed (Int.toNat x3.2.1) (Int.toNat x3.2.2.1)) :: ([] : List (List Int))))) ≤ Go.Abs.big) ∧
         (Go.Abs.fitsK Go.IntKind.i64 (x3.2.1 + (1 : Int))) ∧
         (K3 (x3.1, ((x3.2.1 + (1 : Int)), (x3.2.2.1, (x3.2.2.2.1, ((x3.2.2.2.2.1 ++ ((Go.Abs.King.listed (Int.toNat x3.2.1) (Int.toNat x3.2.2.1)) :: ([] : List (List Int)))), ())))))))))
       ((Go.Abs.fitsK Go.IntKind.i64 (x3.2.1 + (1 : Int))) ∧
       (K3 (x3.1, ((x3.2.1 + (1 : Int)), (x3.2.2.1, (x3.2.2.2.1, (x3.2.2.2.2.1, ()))))))))
      (br ((decide (x3.1 > x3.2.2.1)))
       ((k (Go.Abs.AVal.tup ((Go.Abs.AVal.reg (0 : Nat) Bool.false) :: ((Go.Abs.AVal.int Go.IntKind.i64 (27 : Int)) :: []))) ((Go.Abs.Cont.sl (Go.Abs.Ty.slice (Go.Abs.Ty.int Go.IntKind.i64)) ([] : List (List Int))) :: [])))
       (Go.Abs.Loop (σ := (Int × ((List (List Int)) × Unit))) (fun K5 x5 =>
         br ((decide (x5.1 < (((List.length x5.2.1) : Nat) : Int))))
          (Go.Abs.Loop (σ := (Int × (Int × ((List (List Int)) × Unit)))) (fun K7 x7 =>
            br (((decide (x7.2.1 > (0 : Int))) == Bool.true))
             ((((0 : Int) ≤ x7.2.1) ∧ ((Int.toNat x7.2.1) < (List.length x7.2.2.1))) ∧
             ∃ h9 : ((Int.toNat x7.2.1) < (List.length x7.2.2.1)),
             (Go.Abs.fitsK Go.IntKind.i64 (x7.2.1 - (1 : Int))) ∧
             (((0 : Int) ≤ (x7.2.1 - (1 : Int))) ∧ ((Int.toNat (x7.2.1 - (1 : Int))) < (List.length x7.2.2.1))) ∧
             ∃ h10 : ((Int.toNat (x7.2.1 - (1 : Int))) < (List.length x7.2.2.1)),
             (Go.Abs.King.v67.p ((x7.2.2.1[(Int.toNat x7.2.1)]'h9), ((x7.2.2.1[(Int.toNat (x7.2.1 - (1 : Int)))]'h10), ()))) ∧
             br ((Go.Abs.King.beforeL (x7.2.2.1[(Int.toNat x7.2.1)]'h9) (x7.2.2.1[(Int.toNat (x7.2.1 - (1 : Int)))]'h10)))
              ((Go.Abs.fitsK Go.IntKind.i64 (x7.2.1 - (1 : Int))) ∧
              (Go.Abs.fitsK Go.IntKind.i64 (x7.2.1 - (1 : Int))) ∧
              (((0 : Int) ≤ (x7.2.1 - (1 : Int))) ∧ ((Int.toNat (x7.2.1 - (1 : Int))) < (List.length x7.2.2.1))) ∧
              ∃ h11 : ((Int.toNat (x7.2.1 - (1 : Int))) < (List.length x7.2.2.1)),
              (((0 : Int) ≤ x7.2.1) ∧ ((Int.toNat x7.2.1) < (List.length x7.2.2.1))) ∧
              ∃ h12 : ((Int.toNat x7.2.1) < (List.length x7.2.2.1)),
              (((0 : Int) ≤ x7.2.1) ∧ ((Int.toNat x7.2.1) < (List.length x7.2.2.1))) ∧
              ∃ h13 : ((Int.toNat x7.2.1) < (List.length x7.2.2.1)),
              (((0 : Int) ≤ (x7.2.1 - (1 : Int))) ∧ ((Int.toNat (x7.2.1 - (1 : Int))) < (List.length (List.set x7.2.2.1 (Int.toNat x7.2.1) (x7.2.2.1[(Int.toNat (x7.2.1 - (1 : Int)))]'h11))))) ∧
              ∃ h14 : ((Int.toNat (x7.2.1 - (1 : Int))) < (List.length (List.set x7.2.2.1 (Int.toNat x7.2.1) (x7.2.2.1[(Int.toNat (x7.2.1 - (1 : Int)))]'h11)))),
              (Go.Abs.fitsK Go.IntKind.i64 (x7.2.1 - (1 : Int))) ∧
              (K7 (x7.1, ((x7.2.1 - (1 : Int)), ((List.set (List.set x7.2.2.1 (Int.toNat x7.2.1) (x7.2.2.1[(Int.toNat (x7.2.1 - (1 : Int)))]'h11)) (Int.toNat (x7.2.1 - (1 : Int))) (x7.2.2.1[(Int.toNat x7.2.1)]'h12)), ())))))
              ((Go.Abs.fitsK Go.IntKind.i64 (x7.1 + (1 : Int))) ∧
              (K5 ((x7.1 + (1 : Int)), (x7.2.2.1, ())))))
             ((Go.Abs.fitsK Go.IntKind.i64 (x7.1 + (1 : Int))) ∧
             (K5 ((x7.1 + (1 : Int)), (x7.2.2.1, ()))))) ((x5.1, (x5.1, (x5.2.1, ())))))
          ((k (Go.Abs.AVal.tup ((Go.Abs.AVal.reg (0 : Nat) Bool.false) :: ((Go.Abs.AVal.int Go.IntKind.i64 (0 : Int)) :: []))) ((Go.Abs.Cont.sl (Go.Abs.Ty.slice (Go.Abs.Ty.int Go.IntKind.i64)) x5.2.1) :: [])))) (((1 : Int), (x3.2.2.2.2.1, ())))))) (((m + (1 : Int)), ((0 : Int), (m, (pots, (([] : List (List Int)), ())))))))
theorem eq26 (m : Int) (pots : List (List Int)) (k : AVal → List Cont → Prop) : awpF (envOf [(23, mkC [v23]), (41, mkC [v41]), (58, mkC [v58]), (67, mkC [v67])]) Try.prog kt 26 false Try.f26 (v26.S.enc Unit (m, pots, ())).1 [] k = vc26 m pots k := by kernel_rfl
theorem tx26 : (Try.f26.body.map Code.textsOk).getD true = true := by kernel_rfl

end Go.Abs.King
end

section
/- The king's functions keep their contracts: the examples; what the shortest lists are. -/
open Go.Proofs
set_option maxRecDepth 100000
set_option linter.unusedVariables false
namespace Go.Abs.King

theorem all_of {α : Type} {l : List α} {p : α → Prop} [DecidablePred p] (h : l.all (fun x => decide (p x)) = true) : ∀ x, x ∈ l → p x := fun x hx => of_decide_eq_true (List.all_eq_true.1 h x hx)
theorem allLL {c : Nat} {l : List (List Int)} (h : l.all (fun x => decide (x.length ≤ c)) = true) : ∀ x ∈ l, x.length ≤ c := fun x hx => of_decide_eq_true (List.all_eq_true.1 h x hx)
theorem k17 (hG : Good Try.prog (envOf [(50, mkC [v50]), (51, mkC [v51]), (47, mkC [v47]), (54, mkC [v54]), (53, mkC [v53]), (18, mkC [v18]), (25, mkC [v25]), (27, mkC [v27]), (20, mkC [v20]), (30, mkC [v30]), (32, mkC [v32]), (35, mkC [v35]), (37, mkC [v37]), (36, mkC [v36]), (29, mkC [v29]), (24, mkC [v24])])) : v17.Kept Try.prog 17 := by
  rintro ⟨⟩ hpre k hk
  refine aspec hmix hG Try.func17 tx17 (Eq.mpr (eq17 k) ?_)
  replace hk : k (.bool true) [] := hk
  unfold vc17
  have e : (treeN2 3 [[0, 0, 1], [0, 1, 1], [1, 0, 0], [1, 1, 1]] (madeT 3 [[0, 0, 1], [0, 1, 1], [1, 0, 0], [1, 1, 1]]) == 2) = true := by decide +kernel
  rw [e]
  simp only [Var.p, v50, v51, v47, v54, v53, v18, v25, v27, v20, v30, v32, v35, v37, v36, v29, v24, true_and]
  repeat' apply And.intro
  all_goals first
    | exact hk
    | exact allLL (by decide +kernel)
    | exact all_of (by decide +kernel)
    | decide +kernel

theorem k40 (hG : Good Try.prog (envOf [(15, mkC [v15]), (23, mkC [v23])])) : v40.Kept Try.prog 40 := by
  rintro ⟨m, pots, ⟨⟩⟩ hpre k hk
  change List (List Int) at pots
  change Int at m
  refine aspec hmix hG Try.func40 tx40 (Eq.mpr (eq40 m pots k) ?_)
  replace hk : k (.bool (fineB m pots)) [] := hk
  unfold vc40
  refine ⟨trivial, br_intro (fun h => ⟨?_, ?_⟩) (fun h => ?_)⟩
  · cases hg : great pots with
    | true => rw [hg] at h; cases h
    | false =>
      have : ¬ 14 < pots.length := by
        intro hh
        unfold great at hg
        rw [decide_eq_true hh] at hg
        cases hg
      show pots.length ≤ 14
      omega
  · cases hg : great pots with
    | true => rw [hg] at h; cases h
    | false =>
      have e : fineB m pots = (checkShelf m pots == 0) := by
        unfold fineB
        rw [hg]
        by_cases hc : checkShelf m pots = 0
        · rw [decide_eq_true hc, hc]; rfl
        · rw [decide_eq_false hc]
          have : (checkShelf m pots == 0) = false := beq_false_of_ne hc
          rw [this]; rfl
      rw [← e]; exact hk
  · cases hg : great pots with
    | true =>
      have e : fineB m pots = false := by unfold fineB; rw [hg]; rfl
      rw [e] at hk; exact hk
    | false => rw [hg] at h; cases h

/-! ### the shortest lists -/

theorem nextOf_snoc : ∀ (l : List Int) (j : Nat), nextOf (l ++ [(j : Int)]) = j + 1
  | [], j => by show ((j : Int) + 1).toNat = j + 1; omega
  | [x], j => by show ((j : Int) + 1).toNat = j + 1; omega
  | x :: y :: l, j => by
    have := nextOf_snoc (y :: l) j
    show nextOf ((y :: l) ++ [(j : Int)]) = j + 1
    exact this

/-- How many ways to choose some of others. -/
def cB : Nat → Nat → Nat
  | 0, _ => 1
  | _ + 1, 0 => 0
  | n + 1, r + 1 => cB (n + 1) r + cB n r
theorem cB_small : ∀ n, n ≤ 6 → ∀ r, r ≤ 6 → cB n r ≤ 20 := by decide
theorem flat_len {α : Type} (f : Nat → List α) (g : Nat → Nat) : ∀ (r a : Nat), (∀ j, a ≤ j → j < a + r → (f j).length ≤ g (a + r - 1 - j)) → ((List.range' a r).flatMap f).length ≤ ((List.range r).map g).sum
  | 0, a, _ => by simp
  | r + 1, a, h => by
    rw [List.range'_succ, List.flatMap_cons, List.length_append, List.range_succ, List.map_append, List.sum_append]
    have h1 := h a (by omega) (by omega)
    have h2 := flat_len f g r (a + 1) (fun j h3 h4 => by
      have := h j (by omega) (by omega)
      have e : a + (r + 1) - 1 - j = a + 1 + r - 1 - j := by omega
      rw [e] at this
      exact this)
    have e : a + (r + 1) - 1 - a = r := by omega
    rw [e] at h1
    simp only [List.map_cons, List.map_nil, List.sum_cons, List.sum_nil]
    omega
theorem cB_sum (n : Nat) : ∀ r, ((List.range r).map (fun i => cB n i)).sum = cB (n + 1) r
  | 0 => rfl
  | r + 1 => by
    rw [List.range_succ, List.map_append, List.sum_append, cB_sum n r]
    simp [cB]
theorem listsN_cB (pots : List (List Int)) (m : Nat) : ∀ (n : Nat) (l : List Int), (listsN pots m n l).length ≤ cB n (m - nextOf l)
  | 0, l => by
    unfold listsN cB
    split <;> simp
  | n + 1, l => by
    unfold listsN
    refine Nat.le_trans (flat_len _ (fun i => cB n i) _ _ (fun j h1 h2 => ?_)) (Nat.le_of_eq (cB_sum n _))
    have := listsN_cB pots m n (l ++ [(j : Int)])
    rw [nextOf_snoc] at this
    have e : nextOf l + (m - nextOf l) - 1 - j = m - (j + 1) := by omega
    rw [e]
    exact this
theorem listsN_spec {pots : List (List Int)} {m : Nat} : ∀ (n : Nat) (l x : List Int), isList l (m : Int) = true → x ∈ listsN pots m n l → isList x (m : Int) = true ∧ x.length = l.length + n ∧ hardB pots x = false
  | 0, l, x, hl, hx => by
    unfold listsN at hx
    split at hx
    · simp at hx
    · rename_i h
      simp only [List.mem_singleton] at hx
      subst hx
      exact ⟨hl, by simp, by cases hb : hardB pots x with
        | true => exact absurd hb h
        | false => rfl⟩
  | n + 1, l, x, hl, hx => by
    unfold listsN at hx
    obtain ⟨j, hj, hx⟩ := List.mem_flatMap.1 hx
    have hj := List.mem_range'_1.1 hj
    have hsn : isList (l ++ [(j : Int)]) (m : Int) = true := rises_snoc l 0 (m : Int) _ (by omega) hl (by omega) (by omega) (by omega)
    obtain ⟨a, b, c⟩ := listsN_spec n (l ++ [(j : Int)]) x hsn hx
    refine ⟨a, ?_, c⟩
    rw [List.length_append] at b
    simp only [List.length_singleton] at b
    omega

theorem isF_err {m : Int} {pots : List (List Int)} (h : checkShelf m pots = 0) : (fewE m pots = 27 ∧ fewL m pots = [] ∧ fewK m pots = none) ∨ ∃ n, n ≤ m.toNat ∧ fewE m pots = 0 ∧ fewK m pots = some n ∧ fewL m pots = listsN pots m.toNat n [] ∧ 0 < (fewL m pots).length := by
  unfold fewE fewL
  rw [if_neg (not_not_intro h), if_neg (not_not_intro h)]
  cases hk : fewK m pots with
  | none => exact Or.inl ⟨rfl, rfl, rfl⟩
  | some n =>
    refine Or.inr ⟨n, ?_, rfl, rfl, rfl, ?_⟩
    · have := List.mem_range.1 (List.mem_of_find?_eq_some hk); omega
    · unfold fewK at hk
      have h3 := List.find?_some hk
      exact of_decide_eq_true h3
theorem few_spec {m : Int} {pots : List (List Int)} {n : Nat} (h : checkShelf m pots = 0) (hn : fewK m pots = some n) : ∀ l ∈ fewL m pots, isList l m = true ∧ l.length = n ∧ hardB pots l = false := by
  intro l hl
  obtain ⟨f1, f2, f3, f4⟩ := fine_spec h
  obtain ⟨mm, rfl⟩ := Int.eq_ofNat_of_zero_le (show 0 ≤ m by omega)
  rcases isF_err h with ⟨_, _, h3⟩ | ⟨n', h1, h2, h3, h4, h5⟩
  · rw [hn] at h3; cases h3
  · rw [hn] at h3
    cases h3
    rw [h4] at hl
    have := listsN_spec n [] l rfl hl
    refine ⟨this.1, ?_, this.2.2⟩
    simpa using this.2.1

theorem k42 (hG : Good Try.prog (envOf [(25, mkC [v25]), (43, mkC [v43]), (18, mkC [v18])])) : v42.Kept Try.prog 42 := by
  rintro ⟨m, pots, ⟨⟩⟩ hpre k hk
  change List (List Int) at pots
  change Int at m
  refine aspec hmix hG Try.func42 tx42 (Eq.mpr (eq42 m pots k) ?_)
  replace hk : k (.tup [.reg 0 false, .bool (isF m pots), .bool true]) [.sl (.slice (.int .i64)) (fewL m pots)] := hk
  have h : checkShelf m pots = 0 := hpre
  obtain ⟨f1, f2, f3, f4⟩ := fine_spec h
  have hsm : pots.length ≤ 14 ∧ ∀ p ∈ pots, p.length ≤ 12 := ⟨by omega, fun p hp => by have := f3 p hp; omega⟩
  unfold vc42
  rcases isF_err h with ⟨h1, h2, h3⟩ | ⟨n, h1, h2, h3, h4, h5⟩
  · have e : isF m pots = false := by unfold isF; rw [h1]; rfl
    rw [e, h2] at hk
    rw [h1, h2]
    exact ⟨hsm, hk⟩
  · have e : isF m pots = true := by unfold isF; rw [h2]; rfl
    rw [e] at hk
    have hcb := listsN_cB pots m.toNat n []
    have hn0 : nextOf [] = 0 := rfl
    have h20 := cB_small n (by omega) m.toNat (by omega)
    rw [hn0, ← h4] at hcb
    have hle : (fewL m pots).length ≤ 20 := by
      have e : m.toNat - 0 = m.toNat := by omega
      rw [e] at hcb
      omega
    have hsp := few_spec h h3
    rw [h2, br_bne, br_bf, br_decide]
    refine ⟨hsm, fun h => absurd rfl h, fun _ => ⟨fun _ => ⟨fun h => absurd h (by omega), fun _ => ?_⟩, fun h => ?_⟩⟩
    · refine Loop.upto (fun i => ((i : Int), m, pots, fewL m pots, ())) (fun i => True) (fewL m pots).length rfl trivial ?_ ?_
      · intro i K hi _ hK
        have hK := hK trivial
        dsimp only
        rw [br_decide]
        simp only [Int.toNat_natCast]
        have hs := hsp _ (List.getElem_mem hi)
        have hs0 := hsp _ (List.getElem_mem h5)
        have hll : (fewL m pots)[i].length ≤ 1152921504606846976 := by rw [hs.2.1]; omega
        refine ⟨fun _ => ⟨⟨by omega, hi⟩, hi, hll, ?_⟩, fun h => absurd hi (by omega)⟩
        rw [hs.1]
        refine ⟨⟨by omega, hi⟩, hi, ⟨by omega, h5⟩, h5, ?_⟩
        rw [br_bne]
        refine ⟨fun hne => ?_, fun _ => ⟨⟨by omega, hi⟩, hi, ⟨hsm, hll⟩, ?_⟩⟩
        · exact absurd (show (((fewL m pots)[i].length : Nat) : Int) = (((fewL m pots)[0].length : Nat) : Int) by rw [hs.2.1, hs0.2.1]) hne
        · have hN : hardN m pots (fewL m pots)[i] = 5 := by
            unfold hardN
            rw [if_neg (not_not_intro h), hs.1, hs.2.2]; rfl
          rw [hN]
          exact ⟨fits64 (by omega) (by omega), hK⟩
      · intro K _
        dsimp only
        rw [br_decide]
        exact ⟨fun h => absurd h (by omega), fun _ => hk⟩
    · have := eq_of_beq h
      omega

theorem great_small {pots : List (List Int)} (h : great pots = false) : smallS pots := by
  unfold great at h
  have h1 : decide (14 < pots.length) = false := by
    cases hd : decide (14 < pots.length) with
    | true => rw [hd] at h; cases h
    | false => rfl
  rw [h1, Bool.false_or] at h
  refine ⟨by have := of_decide_eq_false h1; omega, fun p hp => ?_⟩
  have := List.any_eq_false.1 h p hp
  have h2 : ¬ 12 < p.length := fun hh => this (decide_eq_true hh)
  omega
theorem longL_small {l : List Int} (h : longL l = false) : l.length ≤ 1152921504606846976 := by
  have := of_decide_eq_false h
  omega

theorem k3 (hG : Good Try.prog (envOf [(15, mkC [v15]), (16, mkC [v16]), (17, mkC [v17]), (18, mkC [v18]), (19, mkC [v19]), (20, mkC [v20]), (21, mkC [v21]), (22, mkC [v22]), (23, mkC [v23]), (24, mkC [v24])])) : v3.Kept Try.prog 3 := by
  rintro ⟨m, pots, marks, seen, ⟨⟩⟩ hpre k hk
  change List (List Int) at pots
  change Int at m
  change List Int at marks seen
  refine aspec hmix hG Try.func3 tx3 (Eq.mpr (eq3 m pots marks seen k) ?_)
  replace hk : k (.bool true) [] := hk
  unfold vc3
  refine ⟨trivial, br_intro (fun h1 => ⟨trivial, br_intro (fun h2 => ⟨trivial, br_intro (fun h3 => ⟨trivial, hk⟩) (fun h3 => ?_)⟩) (fun h2 => ⟨trivial, hk⟩)⟩) (fun h1 => ⟨trivial, hk⟩)⟩
  have g := great_small (eq_of_beq h1)
  have l1 := longL_small (eq_of_beq h2)
  have l2 := longL_small h3
  have hseen : (seenL m pots seen).length ≤ 1152921504606846976 := by
    unfold seenL
    split
    · simp
    · have := listed_len (agree pots m.toNat seen) pots.length
      have := g.1
      omega
  have eL : eqL (seenL m pots seen) (seenL m pots seen) = true := decide_eq_true rfl
  rw [eL]
  simp only [beq_self_eq_true]
  exact ⟨⟨g, l1⟩, ⟨g.1, l1⟩, ⟨g, l2⟩, ⟨g.1, l2⟩, g, g.1, ⟨hseen, hseen⟩, trivial, hk⟩
end Go.Abs.King
end

section
/- The king's functions keep their contracts: looks of all sets, by the references. -/
open Go.Proofs
set_option maxRecDepth 100000
set_option linter.unusedVariables false
namespace Go.Abs.King

/-- The looks of the first sets. -/
def outUp (pots : List (List Int)) (m b : Nat) : List Int := (List.range (2 ^ pots.length)).map (fun i => if i < b then looks pots m i else 0)
theorem outUp_len (pots : List (List Int)) (m b : Nat) : (outUp pots m b).length = 2 ^ pots.length := by simp [outUp]
theorem outUp_get (pots : List (List Int)) (m b i : Nat) (h : i < (outUp pots m b).length) : (outUp pots m b)[i] = if i < b then looks pots m i else 0 := by simp [outUp]
theorem outUp_set (pots : List (List Int)) (m b : Nat) : (outUp pots m b).set b (looks pots m b) = outUp pots m (b + 1) := by
  apply List.ext_getElem
  · simp [outUp_len]
  · intro i h1 h2
    rw [List.getElem_set]
    by_cases e : b = i
    · subst e; rw [if_pos rfl, outUp_get, if_pos (by omega)]
    · rw [if_neg e, outUp_get, outUp_get]
      by_cases h : i < b
      · rw [if_pos h, if_pos (by omega)]
      · rw [if_neg h, if_neg (by omega)]
theorem outUp_skip (pots : List (List Int)) (m b : Nat) (h : looks pots m b = 0) : outUp pots m (b + 1) = outUp pots m b := by
  rw [← outUp_set, h]
  apply List.ext_getElem
  · simp
  · intro i h1 h2
    rw [List.getElem_set]
    by_cases e : b = i
    · subst e; rw [if_pos rfl, outUp_get, if_neg (by omega)]
    · rw [if_neg e]
theorem outUp_all (m : Int) (pots : List (List Int)) : outUp pots m.toNat (2 ^ pots.length) = looksAll m pots := by
  unfold outUp looksAll
  refine List.map_congr_left (fun i hi => ?_)
  rw [if_pos (List.mem_range.1 hi)]
theorem looksAll_get (m : Int) (pots : List (List Int)) (i : Nat) (h : i < (looksAll m pots).length) : (looksAll m pots)[i] = looks pots m.toNat i := by simp [looksAll]
theorem looksAll_len (m : Int) (pots : List (List Int)) : (looksAll m pots).length = 2 ^ pots.length := by simp [looksAll]
theorem cnt_pos {b n : Nat} (h0 : 0 < b) (hb : b < 2 ^ n) : 1 ≤ cnt b n := by
  obtain ⟨i, hi⟩ : ∃ i, b.testBit i = true := by
    by_cases h : ∃ i, b.testBit i = true
    · exact h
    · exfalso
      have : b = 0 := Nat.eq_of_testBit_eq (fun i => by
        rw [Nat.zero_testBit]
        cases hh : b.testBit i with
        | false => rfl
        | true => exact absurd ⟨i, hh⟩ h)
      omega
  have := (mem_listed' hb i).2 hi
  unfold cnt
  exact List.length_pos_of_mem this
theorem worst_out {pots : List (List Int)} {m b j : Nat} {z : Int} (hb : b < 2 ^ pots.length) : worstL pots ((outUp pots m b).set b z) (b : Int) (j : Int) = worstOf (looks pots m) pots b j := by
  show worstOf (getL ((outUp pots m b).set b z)) pots b j = _
  refine worstOf_congr pots b j (fun p hp => ?_)
  unfold getL
  rw [getD_lt _ _ (by rw [List.length_set, outUp_len]; omega), List.getElem_set, if_neg (by omega), outUp_get, if_pos hp]

theorem k39 (hG : Good Try.prog (envOf [(41, mkC [v41]), (71, mkC [v71])])) : v39.Kept Try.prog 39 := by
  rintro ⟨m, pots, ⟨⟩⟩ hpre k hk
  change List (List Int) at pots
  change Int at m
  refine aspec hmix hG Try.func39 tx39 (Eq.mpr (eq39 m pots k) ?_)
  replace hk : k (.reg 0 false) [.sl (.int .i64) (looksAll m pots)] := hk
  have hf : checkShelf m pots = 0 := hpre
  obtain ⟨f1, f2, f3, f4⟩ := fine_spec hf
  obtain ⟨mm, rfl⟩ := Int.eq_ofNat_of_zero_le (show 0 ≤ m by omega)
  have hp8 : 2 ^ pots.length ≤ 2 ^ 8 := Nat.pow_le_pow_right (by omega) (by omega)
  have h256 : (2 : Nat) ^ 8 = 256 := by decide
  have hp1 : 1 ≤ 2 ^ pots.length := Nat.one_le_two_pow
  have hsh : shlA .i64 1 ((pots.length : Nat) : Int) = ((2 ^ pots.length : Nat) : Int) := one_shl _ (by omega)
  unfold vc39
  rw [hsh]
  refine ⟨by omega, ⟨by omega, rfl, by simp only [big]; omega⟩, ?_⟩
  rw [Int.toNat_natCast]
  have e0 : List.replicate (2 ^ pots.length) (Int.ofNat 0) = outUp pots mm 1 := by
    apply List.ext_getElem
    · simp [outUp_len]
    · intro i h1 h2
      rw [List.getElem_replicate, outUp_get]
      by_cases h : i < 1
      · obtain rfl : i = 0 := by omega
        rw [if_pos h]
        have := looks_bounds pots mm 0
        have h3 : looks pots mm 0 = 0 := by
          rw [looks_eq, if_pos]
          have : listed 0 pots.length = [] := by
            unfold listed
            rw [List.filter_eq_nil_iff.2 (fun i _ => by rw [Nat.zero_testBit]; simp)]; rfl
          unfold cnt; rw [this]; simp
        rw [h3]; rfl
      · rw [if_neg h]; rfl
  rw [e0]
  refine Loop.upto (fun c => (((c + 1 : Nat) : Int), (mm : Int), pots, outUp pots mm (c + 1), ())) (fun c => True) (2 ^ pots.length - 1) rfl trivial ?_ ?_
  · intro c K hc _ hK
    have hK := hK trivial
    dsimp only
    have hol := outUp_len pots mm (c + 1)
    rw [br_decide]
    simp only [Int.toNat_natCast]
    refine ⟨fun _ => ⟨⟨⟨by show (0 : Int) ≤ ((c + 1 : Nat) : Int); omega, by show ((c + 1 : Nat) : Int) < 4611686018427387904; omega⟩, by show (0 : Int) ≤ ((pots.length : Nat) : Int); omega, by show ((pots.length : Nat) : Int) ≤ 40; omega⟩, ?_⟩, fun h => absurd hc (by omega)⟩
    generalize hbb : c + 1 = b at *
    have hb : b < 2 ^ pots.length := by omega
    have hcp := cnt_pos (by omega : 0 < b) hb
    have hcl : (listed b pots.length).length = cnt b pots.length := rfl
    rw [br_beq, hcl]
    refine ⟨fun h1 => ⟨fits64 (by omega) (by omega), ?_⟩, fun h1 => ⟨⟨by omega, by omega⟩, by omega, ?_⟩⟩
    · have hl : looks pots mm b = 0 := by rw [looks_eq, if_pos (by omega)]
      rw [outUp_skip _ _ _ hl] at hK
      exact hK
    have hl : looks pots mm b = bestOf (looks pots mm) pots mm b := by rw [looks_eq, if_neg (by omega)]
    have hneg : (-1 : Int) = (List.range 0).foldl (bestStep (looks pots mm) pots b) (-1) := rfl
    refine Loop.upto (fun j => ((b : Int), (j : Int), (mm : Int), pots, (outUp pots mm b).set b ((List.range j).foldl (bestStep (looks pots mm) pots b) (-1)), ())) (fun j => True) mm rfl trivial ?_ ?_
    · intro j K2 hj _ hK2
      have hK2 := hK2 trivial
      dsimp only
      have hbd := bestFold_bounds (looks pots mm) pots b (fun p _ => (looks_bounds pots mm p).2) (List.range j) (-1) (Or.inl rfl) (by omega)
      rw [List.range_succ, List.foldl_append] at hK2
      simp only [List.foldl_cons, List.foldl_nil] at hK2
      generalize (List.range j).foldl (bestStep (looks pots mm) pots b) (-1) = z at hK2 hbd ⊢
      have hsl : ((outUp pots mm b).set b z).length = 2 ^ pots.length := by rw [List.length_set, outUp_len]
      have hget : ((outUp pots mm b).set b z)[b]'(by omega) = z := List.getElem_set_self _
      have hwb := worst_bounds pots mm b j
      rw [br_decide, worst_out hb]
      simp only [Int.toNat_natCast]
      refine ⟨fun _ => ⟨⟨hf, hsl, ⟨by show (0 : Int) ≤ (b : Int); omega, by show (b : Int) < ((2 ^ pots.length : Nat) : Int); omega⟩, by show (0 : Int) ≤ (j : Int); omega, by show (j : Int) < (mm : Int); omega⟩, ?_⟩, fun h => absurd hj (by omega)⟩
      unfold bestStep at hK2
      rw [br_true]
      refine ⟨fun h2 => ⟨⟨by omega, by omega⟩, by omega, ?_⟩, fun h2 => ⟨fits64 (by omega) (by omega), ?_⟩⟩
      · rw [br_false, hget]
        refine ⟨fun h3 => ⟨fits64 (by omega) (by omega), ⟨by omega, by omega⟩, by omega, ?_⟩, fun h3 => ?_⟩
        · rw [br_decide]
          refine ⟨fun h4 => ?_, fun h4 => ?_⟩
          rotate_left
          · replace h4 : ¬ worstOf (looks pots mm) pots b j + 1 < ((outUp pots mm b).set b z)[b]'(by omega) := h4
            rw [hget] at h4
            rw [if_neg (by omega)] at hK2
            exact ⟨fits64 (by omega) (by omega), hK2⟩
          replace h4 : worstOf (looks pots mm) pots b j + 1 < ((outUp pots mm b).set b z)[b]'(by omega) := h4
          rw [hget] at h4
          rw [if_pos ⟨h2, Or.inr h4⟩] at hK2
          refine ⟨fits64 (by omega) (by omega), ⟨by omega, by omega⟩, by omega, fits64 (by omega) (by omega), ?_⟩
          rw [List.set_set]
          exact hK2
        · rw [if_pos ⟨h2, Or.inl h3⟩] at hK2
          refine ⟨fits64 (by omega) (by omega), ⟨by omega, by omega⟩, by omega, fits64 (by omega) (by omega), ?_⟩
          rw [List.set_set]
          exact hK2
      · rw [if_neg (by omega)] at hK2
        exact hK2
    · intro K2 _
      dsimp only
      rw [br_decide]
      refine ⟨fun h => absurd h (by omega), fun _ => ⟨fits64 (by omega) (by omega), ?_⟩⟩
      have e : (List.range mm).foldl (bestStep (looks pots mm) pots b) (-1) = looks pots mm b := hl.symm
      rw [e, outUp_set]
      exact hK
  · intro K _
    dsimp only
    have hol := outUp_len pots mm (2 ^ pots.length - 1 + 1)
    rw [br_decide, hol]
    refine ⟨fun h => absurd h (by omega), fun _ => ?_⟩
    have e : 2 ^ pots.length - 1 + 1 = 2 ^ pots.length := by omega
    rw [e]
    have := outUp_all (mm : Int) pots
    rw [Int.toNat_natCast] at this
    rw [this]
    exact hk

theorem k31 (hG : Good Try.prog (envOf [(61, mkC [v61]), (62, mkC [v62]), (39, mkC [v39])])) : v31.Kept Try.prog 31 := by
  rintro ⟨m, pots, seen, ⟨⟩⟩ hpre k hk
  change List (List Int) at pots
  change List Int at seen
  change Int at m
  refine aspec hmix hG Try.func31 tx31 (Eq.mpr (eq31 m pots seen k) ?_)
  replace hk : k (.tup [rI (looksE m pots seen), rI (seenErr m pots seen)]) [] := hk
  obtain ⟨hs, hl⟩ := hpre
  have hp : pots.length ≤ 14 := hs.1
  unfold vc31
  rw [br_bne]
  refine ⟨⟨hp, hl⟩, fun h => ⟨⟨hp, hl⟩, ?_⟩, fun h => ⟨(se_ok h).1, h, ?_⟩⟩
  · rw [looksE, if_pos h] at hk; exact hk
  · rw [looksE, if_neg (not_not_intro h), h] at hk
    have ha := agree_lt pots m.toNat seen
    have hlen := looksAll_len m pots
    simp only [Int.toNat_natCast]
    refine ⟨⟨by omega, by omega⟩, by omega, ?_⟩
    rw [looksAll_get]
    exact hk

theorem k33 (hG : Good Try.prog (envOf [(61, mkC [v61]), (62, mkC [v62]), (39, mkC [v39]), (71, mkC [v71])])) : v33.Kept Try.prog 33 := by
  rintro ⟨m, pots, seen, ⟨⟩⟩ hpre k hk
  change List (List Int) at pots
  change List Int at seen
  change Int at m
  refine aspec hmix hG Try.func33 tx33 (Eq.mpr (eq33 m pots seen k) ?_)
  replace hk : k (.tup [rI (nextN m pots seen), rI (nextE m pots seen)]) [] := hk
  obtain ⟨hs, hl⟩ := hpre
  have hp : pots.length ≤ 14 := hs.1
  have herr : ∀ e : Int, e ≠ 0 → nextE m pots seen = e → k (.tup [rI 0, rI e]) [] := by
    intro e he h
    rw [nextN, if_pos (by rw [h]; exact he), h] at hk
    exact hk
  unfold vc33
  rw [br_bne]
  refine ⟨⟨hp, hl⟩, fun h => ⟨⟨hp, hl⟩, herr _ h (by rw [nextE, if_pos h])⟩, fun h => ⟨(se_ok h).1, h, ?_⟩⟩
  have hf := (se_ok h).1
  obtain ⟨f1, f2, f3, f4⟩ := fine_spec hf
  obtain ⟨mm, rfl⟩ := Int.eq_ofNat_of_zero_le (show 0 ≤ m by omega)
  have ha := agree_lt pots mm seen
  have hlen := looksAll_len (mm : Int) pots
  have hp8 : 2 ^ pots.length ≤ 2 ^ 8 := Nat.pow_le_pow_right (by omega) (by omega)
  have h256 : (2 : Nat) ^ 8 = 256 := by decide
  have hE : nextE (mm : Int) pots seen = if looks pots mm (agree pots mm seen) = 0 then 5 else if looks pots mm (agree pots mm seen) < 0 then 27 else 0 := by
    rw [nextE, if_neg (not_not_intro h)]; rfl
  have hget : (looksAll (mm : Int) pots)[agree pots mm seen]'(by omega) = looks pots mm (agree pots mm seen) := looksAll_get _ _ _ _
  have hN : nextN (mm : Int) pots seen = if nextE (mm : Int) pots seen ≠ 0 then 0 else (firstN pots mm (agree pots mm seen) : Int) := rfl
  simp only [Int.toNat_natCast]
  rw [hN] at hk
  obtain ⟨b, hb0⟩ : ∃ b, agree pots mm seen = b := ⟨_, rfl⟩
  simp only [hb0] at ha hE hget hk ⊢
  refine ⟨⟨by omega, by omega⟩, by omega, ?_⟩
  simp only [hget]
  rw [br_beq, br_decide]
  refine ⟨fun h2 => herr 5 (by omega) (by rw [hE, if_pos h2]), fun h2 => ⟨⟨by omega, by omega⟩, by omega, fun h3 => herr 27 (by omega) (by rw [hE, if_neg h2, if_pos h3]), fun h3 => ?_⟩⟩
  rw [if_neg h2, if_neg h3] at hE
  rw [hE, if_neg (by omega)] at hk
  have hworst : ∀ j : Nat, worstL pots (looksAll (mm : Int) pots) (b : Int) (j : Int) = worstOf (looks pots mm) pots b j := by
    intro j
    show worstOf (getL _) pots b j = _
    refine worstOf_congr pots b j (fun p hp => ?_)
    unfold getL
    rw [getD_lt _ _ (by omega)]
    exact looksAll_get _ _ _ _
  have hs := firstN_spec (pots := pots) (m := mm) (b := b) (by omega)
  refine Loop.upto (fun j => ((b : Int), (j : Int), (mm : Int), pots, looksAll (mm : Int) pots, ())) (fun i => ∀ j, j < i → decide (0 ≤ worstOf (looks pots mm) pots b j ∧ worstOf (looks pots mm) pots b j < looks pots mm b) = false) mm rfl (fun j h => by omega) ?_ ?_
  · intro i K hi hp hK
    dsimp only
    rw [br_decide, hworst, br_true]
    simp only [Int.toNat_natCast]
    have hnext : ¬ (0 ≤ worstOf (looks pots mm) pots b i ∧ worstOf (looks pots mm) pots b i < looks pots mm b) → ∀ j, j < i + 1 → decide (0 ≤ worstOf (looks pots mm) pots b j ∧ worstOf (looks pots mm) pots b j < looks pots mm b) = false := by
      intro hh j hj
      rcases Nat.lt_or_ge j i with h' | h'
      · exact hp j h'
      · obtain rfl : j = i := by omega
        exact decide_eq_false hh
    refine ⟨fun _ => ⟨⟨hf, hlen, ⟨by show (0 : Int) ≤ (b : Int); omega, by show (b : Int) < ((2 ^ pots.length : Nat) : Int); omega⟩, by show (0 : Int) ≤ (i : Int); omega, by show (i : Int) < (mm : Int); omega⟩, fun h5 => ⟨⟨by omega, by omega⟩, by omega, ?_⟩, fun h5 => ⟨fits64 (by omega) (by omega), hK (hnext (by omega))⟩⟩, fun h => absurd hi (by omega)⟩
    simp only [hget]
    rw [br_decide]
    refine ⟨fun h6 => ?_, fun h6 => ⟨fits64 (by omega) (by omega), hK (hnext (by omega))⟩⟩
    have e : firstN pots mm b = i := by
      unfold firstN
      rw [List.range_eq_range', find_range' _ mm 0 i (by omega) (by omega) (fun j _ hj => hp j hj)]
      have e2 : 0 + mm - i = (mm - (i + 1)) + 1 := by omega
      rw [e2, List.range'_succ, List.find?_cons, decide_eq_true (show 0 ≤ worstOf (looks pots mm) pots b i ∧ worstOf (looks pots mm) pots b i < looks pots mm b from ⟨h5, h6⟩)]
      rfl
    rw [e] at hk
    exact hk
  · intro K hp
    dsimp only
    rw [br_decide]
    refine ⟨fun h => absurd h (by omega), fun _ => ?_⟩
    have := hp _ hs.1
    rw [decide_eq_true hs.2] at this
    cases this

theorem k5 (hG : Good Try.prog (envOf [(15, mkC [v15]), (16, mkC [v16]), (17, mkC [v17]), (30, mkC [v30]), (31, mkC [v31]), (32, mkC [v32]), (33, mkC [v33])])) : v5.Kept Try.prog 5 := by
  rintro ⟨m, pots, seen, ⟨⟩⟩ hpre k hk
  change List (List Int) at pots
  change Int at m
  change List Int at seen
  refine aspec hmix hG Try.func5 tx5 (Eq.mpr (eq5 m pots seen k) ?_)
  replace hk : k (.bool true) [] := hk
  unfold vc5
  refine ⟨trivial, br_intro (fun h1 => ⟨trivial, br_intro (fun h2 => ⟨trivial, hk⟩) (fun h2 => ?_)⟩) (fun h1 => ⟨trivial, hk⟩)⟩
  have g := great_small (eq_of_beq h1)
  have l2 := longL_small h2
  simp only [beq_self_eq_true]
  exact ⟨⟨g, l2⟩, ⟨g, l2⟩, ⟨g, l2⟩, ⟨g, l2⟩, trivial, hk⟩
end Go.Abs.King
end

section
/- Conditions and their equations, printed by a program: sixth part. -/
open Go.Proofs
set_option maxRecDepth 100000
set_option linter.unusedVariables false
namespace Go.Abs.King
def vc14  (k : AVal → List Cont → Prop) : Prop :=
  (Go.Abs.King.v50.p ()) ∧
  (Go.Abs.King.v51.p ()) ∧
  (Go.Abs.King.v47.p (((0 : Int) :: ([] : List Int)), ())) ∧
  (Go.Abs.King.v18.p ((3 : Int), ((((0 : Int) :: ((0 : Int) :: ((1 : Int) :: ([] : List Int)))) :: (((0 : Int) :: ((1 : Int) :: ((1 : Int) :: ([] : List Int)))) :: (((1 : Int) :: ((0 : Int) :: ((0 : Int) :: ([] : List Int)))) :: (((1 : Int) :: ((1 : Int) :: ((1 : Int) :: ([] : List Int)))) :: ([] : List (List Int)))))), (((0 : Int) :: ([] : List Int)), ())))) ∧
  (Go.Abs.King.v18.p ((3 : Int), ((((0 : Int) :: ((0 : Int) :: ((1 : Int) :: ([] : List Int)))) :: (((0 : Int) :: ((1 : Int) :: ((1 : Int) :: ([] : List Int)))) :: (((1 : Int) :: ((0 : Int) :: ((0 : Int) :: ([] : List Int)))) :: (((1 : Int) :: ((1 : Int) :: ((1 : Int) :: ([] : List Int)))) :: ([] : List (List Int)))))), (([] : List Int), ())))) ∧
  (Go.Abs.King.v27.p ((2 : Int), ((((0 : Int) :: ((0 : Int) :: ([] : List Int))) :: (((1 : Int) :: ((1 : Int) :: ([] : List Int))) :: (((0 : Int) :: ((0 : Int) :: ([] : List Int))) :: ([] : List (List Int))))), ()))) ∧
  (Go.Abs.King.v47.p (((-(1 : Int) : Int) :: ((1 : Int) :: ((0 : Int) :: ([] : List Int)))), ())) ∧
  (Go.Abs.King.v20.p ((3 : Int), ((((0 : Int) :: ((0 : Int) :: ((1 : Int) :: ([] : List Int)))) :: (((0 : Int) :: ((1 : Int) :: ((1 : Int) :: ([] : List Int)))) :: (((1 : Int) :: ((0 : Int) :: ((0 : Int) :: ([] : List Int)))) :: (((1 : Int) :: ((1 : Int) :: ((1 : Int) :: ([] : List Int)))) :: ([] : List (List Int)))))), (((-(1 : Int) : Int) :: ((1 : Int) :: ((0 : Int) :: ([] : List Int)))), ())))) ∧
  (Go.Abs.King.v47.p (((-(1 : Int) : Int) :: ((1 : Int) :: ((-(1 : Int) : Int) :: ([] : List Int)))), ())) ∧
  (Go.Abs.King.v30.p ((3 : Int), ((((0 : Int) :: ((0 : Int) :: ((1 : Int) :: ([] : List Int)))) :: (((0 : Int) :: ((1 : Int) :: ((1 : Int) :: ([] : List Int)))) :: (((1 : Int) :: ((0 : Int) :: ((0 : Int) :: ([] : List Int)))) :: (((1 : Int) :: ((1 : Int) :: ((1 : Int) :: ([] : List Int)))) :: ([] : List (List Int)))))), (((-(1 : Int) : Int) :: ((1 : Int) :: ((-(1 : Int) : Int) :: ([] : List Int)))), ())))) ∧
  (Go.Abs.King.v47.p (((1 : Int) :: ((1 : Int) :: ((-(1 : Int) : Int) :: ([] : List Int)))), ())) ∧
  (Go.Abs.King.v30.p ((3 : Int), ((((0 : Int) :: ((0 : Int) :: ((1 : Int) :: ([] : List Int)))) :: (((0 : Int) :: ((1 : Int) :: ((1 : Int) :: ([] : List Int)))) :: (((1 : Int) :: ((0 : Int) :: ((0 : Int) :: ([] : List Int)))) :: (((1 : Int) :: ((1 : Int) :: ((1 : Int) :: ([] : List Int)))) :: ([] : List (List Int)))))), (((1 : Int) :: ((1 : Int) :: ((-(1 : Int) : Int) :: ([] : List Int)))), ())))) ∧
  (Go.Abs.King.v47.p (((1 : Int) :: ((-(1 : Int) : Int) :: ([] : List Int))), ())) ∧
  (Go.Abs.King.v30.p ((2 : Int), ((((0 : Int) :: ((0 : Int) :: ([] : List Int))) :: (((1 : Int) :: ((1 : Int) :: ([] : List Int))) :: (((0 : Int) :: ((0 : Int) :: ([] : List Int))) :: ([] : List (List Int))))), (((1 : Int) :: ((-(1 : Int) : Int) :: ([] : List Int))), ())))) ∧
  (Go.Abs.King.v47.p (((-(1 : Int) : Int) :: ((-(1 : Int) : Int) :: ((-(1 : Int) : Int) :: ([] : List Int)))), ())) ∧
  (Go.Abs.King.v32.p ((3 : Int), ((((0 : Int) :: ((0 : Int) :: ((1 : Int) :: ([] : List Int)))) :: (((0 : Int) :: ((1 : Int) :: ((1 : Int) :: ([] : List Int)))) :: (((1 : Int) :: ((0 : Int) :: ((0 : Int) :: ([] : List Int)))) :: (((1 : Int) :: ((1 : Int) :: ((1 : Int) :: ([] : List Int)))) :: ([] : List (List Int)))))), (((-(1 : Int) : Int) :: ((-(1 : Int) : Int) :: ((-(1 : Int) : Int) :: ([] : List Int)))), ())))) ∧
  (Go.Abs.King.v47.p (((0 : Int) :: ([] : List Int)), ())) ∧
  (Go.Abs.King.v52.p ((1 : Int), ((((0 : Int) :: ([] : List Int)) :: ([] : List (List Int))), ()))) ∧
  (Go.Abs.King.v35.p ((1 : Int), ((((0 : Int) :: ([] : List Int)) :: ([] : List (List Int))), (([] : List (Int × (List Int))), ())))) ∧
  (Go.Abs.King.v22.p ((3 : Int), ((((0 : Int) :: ((0 : Int) :: ((1 : Int) :: ([] : List Int)))) :: (((0 : Int) :: ((1 : Int) :: ((1 : Int) :: ([] : List Int)))) :: (((1 : Int) :: ((0 : Int) :: ((0 : Int) :: ([] : List Int)))) :: (((1 : Int) :: ((1 : Int) :: ((1 : Int) :: ([] : List Int)))) :: ([] : List (List Int)))))), ()))) ∧
  (Go.Abs.King.v17.p ()) ∧
  (k (Go.Abs.AVal.bool Bool.true) [])
theorem eq14  (k : AVal → List Cont → Prop) : awpF (envOf [(50, mkC [v50]), (51, mkC [v51]), (47, mkC [v47]), (18, mkC [v18]), (27, mkC [v27]), (20, mkC [v20]), (30, mkC [v30]), (32, mkC [v32]), (52, mkC [v52]), (35, mkC [v35]), (22, mkC [v22]), (17, mkC [v17])]) Try.prog kt 14 false Try.f14 (v14.S.enc Unit ()).1 [] k = vc14  k := by kernel_rfl
theorem tx14 : (Try.f14.body.map Code.textsOk).getD true = true := by kernel_rfl

def vc9 (m : Int) (pots : List (List Int)) (which bits : Int) (k : AVal → List Cont → Prop) : Prop :=
  (Go.Abs.King.v40.p (m, (pots, ()))) ∧
  br (((Bool.not (Go.Abs.King.fineB m pots)) == Bool.false))
   ((Go.Abs.King.v38.p (m, (pots, ()))) ∧
   br (((Go.Abs.King.treeErrE m pots) != (0 : Int)))
    ((Go.Abs.King.v17.p ()) ∧
    (k (Go.Abs.AVal.bool Bool.true) []))
    ((Go.Abs.fitsK Go.IntKind.i64 which) ∧
    (((0 : Int) ≤ which) ∧ ((0 : Int) < (((List.length pots) : Nat) : Int))) ∧
    (Go.Abs.King.v46.p (m, (pots, ((HMod.hMod which (((List.length pots) : Nat) : Int)), (bits, ()))))) ∧
    (Go.Abs.King.v30.p (m, (pots, ((Go.Abs.King.seenOf pots (Int.toNat m) (Int.toNat (HMod.hMod which (((List.length pots) : Nat) : Int))) (Int.toNat bits)), ())))) ∧
    br ((((Go.Abs.King.seenErr m pots (Go.Abs.King.seenOf pots (Int.toNat m) (Int.toNat (HMod.hMod which (((List.length pots) : Nat) : Int))) (Int.toNat bits))) != (0 : Int)) == Bool.false))
     (br (((decide ((Go.Abs.King.looksE m pots (Go.Abs.King.seenOf pots (Int.toNat m) (Int.toNat (HMod.hMod which (((List.length pots) : Nat) : Int))) (Int.toNat bits))) < (0 : Int))) == Bool.false))
      (br ((decide ((Go.Abs.King.looksE m pots (Go.Abs.King.seenOf pots (Int.toNat m) (Int.toNat (HMod.hMod which (((List.length pots) : Nat) : Int))) (Int.toNat bits))) > m)))
       ((k (Go.Abs.AVal.bool Bool.false) []))
       (Go.Abs.Loop (σ := (Int × (Int × (Int × ((List (List Int)) × ((List Int) × Unit)))))) (fun K5 x5 =>
         br ((decide (x5.2.1 > (0 : Int))))
          ((Go.Abs.King.v32.p (x5.2.2.1, (x5.2.2.2.1, (x5.2.2.2.2.1, ())))) ∧
          br ((((Go.Abs.King.nextE x5.2.2.1 x5.2.2.2.1 x5.2.2.2.2.1) != (0 : Int)) == Bool.false))
           (br (((decide ((Go.Abs.King.nextN x5.2.2.1 x5.2.2.2.1 x5.2.2.2.2.1) < (0 : Int))) == Bool.false))
            (br (((decide ((Go.Abs.King.nextN x5.2.2.1 x5.2.2.2.1 x5.2.2.2.2.1) ≥ x5.2.2.1)) == Bool.false))
             ((((0 : Int) ≤ (Go.Abs.King.nextN x5.2.2.1 x5.2.2.2.1 x5.2.2.2.2.1)) ∧ ((Int.toNat (Go.Abs.King.nextN x5.2.2.1 x5.2.2.2.1 x5.2.2.2.2.1)) < (List.length x5.2.2.2.2.1))) ∧
             ∃ h7 : ((Int.toNat (Go.Abs.King.nextN x5.2.2.1 x5.2.2.2.1 x5.2.2.2.2.1)) < (List.length x5.2.2.2.2.1)),
             br ((decide ((x5.2.2.2.2.1[(Int.toNat (Go.Abs.King.nextN x5.2.2.1 x5.2.2.2.1 x5.2.2.2.2.1))]'h7) ≥ (0 : Int))))
              ((k (Go.Abs.AVal.bool Bool.false) []))
              (∃ h8 : (((0 : Int) ≤ x5.1) ∧ ((Int.toNat x5.1) < (List.length x5.2.2.2.1))),
              ∃ h9 : (((0 : Int) ≤ (Go.Abs.King.nextN x5.2.2.1 x5.2.2.2.1 x5.2.2.2.2.1)) ∧ ((Int.toNat (Go.Abs.King.nextN x5.2.2.1 x5.2.2.2.1 x5.2.2.2.2.1)) < (List.length (x5.2.2.2.1[(Int.toNat x5.1)]'h8.2)))),
              (((0 : Int) ≤ (Go.Abs.King.nextN x5.2.2.1 x5.2.2.2.1 x5.2.2.2.2.1)) ∧ ((Int.toNat (Go.Abs.King.nextN x5.2.2.1 x5.2.2.2.1 x5.2.2.2.2.1)) < (List.length x5.2.2.2.2.1))) ∧
              ∃ h10 : ((Int.toNat (Go.Abs.King.nextN x5.2.2.1 x5.2.2.2.1 x5.2.2.2.2.1)) < (List.length x5.2.2.2.2.1)),
              (Go.Abs.King.v30.p (x5.2.2.1, (x5.2.2.2.1, ((List.set x5.2.2.2.2.1 (Int.toNat (Go.Abs.King.nextN x5.2.2.1 x5.2.2.2.1 x5.2.2.2.2.1)) ((x5.2.2.2.1[(Int.toNat x5.1)]'h8.2)[(Int.toNat (Go.Abs.King.nextN x5.2.2.1 x5.2.2.2.1 x5.2.2.2.2.1))]'h9.2)), ())))) ∧
              br ((((Go.Abs.King.seenErr x5.2.2.1 x5.2.2.2.1 (List.set x5.2.2.2.2.1 (Int.toNat (Go.Abs.King.nextN x5.2.2.1 x5.2.2.2.1 x5.2.2.2.2.1)) ((x5.2.2.2.1[(Int.toNat x5.1)]'h8.2)[(Int.toNat (Go.Abs.King.nextN x5.2.2.1 x5.2.2.2.1 x5.2.2.2.2.1))]'h9.2))) != (0 : Int)) == Bool.false))
               (br (((decide ((Go.Abs.King.looksE x5.2.2.1 x5.2.2.2.1 (List.set x5.2.2.2.2.1 (Int.toNat (Go.Abs.King.nextN x5.2.2.1 x5.2.2.2.1 x5.2.2.2.2.1)) ((x5.2.2.2.1[(Int.toNat x5.1)]'h8.2)[(Int.toNat (Go.Abs.King.nextN x5.2.2.1 x5.2.2.2.1 x5.2.2.2.2.1))]'h9.2))) < (0 : Int))) == Bool.false))
                (br ((decide ((Go.Abs.King.looksE x5.2.2.1 x5.2.2.2.1 (List.set x5.2.2.2.2.1 (Int.toNat (Go.Abs.King.nextN x5.2.2.1 x5.2.2.2.1 x5.2.2.2.2.1)) ((x5.2.2.2.1[(Int.toNat x5.1)]'h8.2)[(Int.toNat (Go.Abs.King.nextN x5.2.2.1 x5.2.2.2.1 x5.2.2.2.2.1))]'h9.2))) ≥ x5.2.1)))
                 ((k (Go.Abs.AVal.bool Bool.false) []))
                 ((K5 (x5.1, ((Go.Abs.King.looksE x5.2.2.1 x5.2.2.2.1 (List.set x5.2.2.2.2.1 (Int.toNat (Go.Abs.King.nextN x5.2.2.1 x5.2.2.2.1 x5.2.2.2.2.1)) ((x5.2.2.2.1[(Int.toNat x5.1)]'h8.2)[(Int.toNat (Go.Abs.King.nextN x5.2.2.1 x5.2.2.2.1 x5.2.2.2.2.1))]'h9.2))), (x5.2.2.1, (x5.2.2.2.1, ((List.set x5.2.2.2.2.1 (Int.toNat (Go.Abs.King.nextN x5.2.2.1 x5.2.2.2.1 x5.2.2.2.2.1)) ((x5.2.2.2.1[(Int.toNat x5.1)]'h8.2)[(Int.toNat (Go.Abs.King.nextN x5.2.2.1 x5.2.2.2.1 x5.2.2.2.2.1))]'h9.2)), ()))))))))
                ((k (Go.Abs.AVal.bool Bool.false) [])))
               ((k (Go.Abs.AVal.bool Bool.false) []))))
             ((k (Go.Abs.AVal.bool Bool.false) [])))
            ((k (Go.Abs.AVal.bool Bool.false) [])))
           ((k (Go.Abs.AVal.bool Bool.false) [])))
          ((Go.Abs.King.v20.p (x5.2.2.1, (x5.2.2.2.1, (x5.2.2.2.2.1, ())))) ∧
          (Go.Abs.King.v32.p (x5.2.2.1, (x5.2.2.2.1, (x5.2.2.2.2.1, ())))) ∧
          br ((((Go.Abs.King.seenErr x5.2.2.1 x5.2.2.2.1 x5.2.2.2.2.1) == (0 : Int)) == Bool.true))
           ((Go.Abs.King.v47.p ((x5.1 :: ([] : List Int)), ())) ∧
           (Go.Abs.King.v24.p ((Go.Abs.King.seenL x5.2.2.1 x5.2.2.2.1 x5.2.2.2.2.1), ((x5.1 :: ([] : List Int)), ()))) ∧
           br (((Go.Abs.King.eqL (Go.Abs.King.seenL x5.2.2.1 x5.2.2.2.1 x5.2.2.2.2.1) (x5.1 :: ([] : List Int))) == Bool.true))
            (br ((((Go.Abs.King.nextE x5.2.2.1 x5.2.2.2.1 x5.2.2.2.2.1) == (5 : Int)) == Bool.true))
             ((Go.Abs.King.v17.p ()) ∧
             (k (Go.Abs.AVal.bool Bool.true) []))
             ((k (Go.Abs.AVal.bool Bool.false) [])))
            ((k (Go.Abs.AVal.bool Bool.false) [])))
           ((k (Go.Abs.AVal.bool Bool.false) [])))) (((HMod.hMod which (((List.length pots) : Nat) : Int)), ((Go.Abs.King.looksE m pots (Go.Abs.King.seenOf pots (Int.toNat m) (Int.toNat (HMod.hMod which (((List.length pots) : Nat) : Int))) (Int.toNat bits))), (m, (pots, ((Go.Abs.King.seenOf pots (Int.toNat m) (Int.toNat (HMod.hMod which (((List.length pots) : Nat) : Int))) (Int.toNat bits)), ()))))))))
      ((k (Go.Abs.AVal.bool Bool.false) [])))
     ((k (Go.Abs.AVal.bool Bool.false) []))))
   ((Go.Abs.King.v17.p ()) ∧
   (k (Go.Abs.AVal.bool Bool.true) []))
theorem eq9 (m : Int) (pots : List (List Int)) (which bits : Int) (k : AVal → List Cont → Prop) : awpF (envOf [(40, mkC [v40]), (38, mkC [v38]), (17, mkC [v17]), (46, mkC [v46]), (30, mkC [v30]), (32, mkC [v32]), (20, mkC [v20]), (47, mkC [v47]), (24, mkC [v24])]) Try.prog kt 9 false Try.f9 (v9.S.enc Unit (m, pots, which, bits, ())).1 [] k = vc9 m pots which bits k := by kernel_rfl
theorem tx9 : (Try.f9.body.map Code.textsOk).getD true = true := by kernel_rfl

end Go.Abs.King
end

section
/- The king's functions keep their contracts: the examples of the chapter. -/
open Go.Proofs
set_option maxRecDepth 100000
set_option linter.unusedVariables false
namespace Go.Abs.King
theorem k14 (hG : Good Try.prog (envOf [(50, mkC [v50]), (51, mkC [v51]), (47, mkC [v47]), (18, mkC [v18]), (27, mkC [v27]), (20, mkC [v20]), (30, mkC [v30]), (32, mkC [v32]), (52, mkC [v52]), (35, mkC [v35]), (22, mkC [v22]), (17, mkC [v17])])) : v14.Kept Try.prog 14 := by
  rintro ⟨⟩ hpre k hk
  refine aspec hmix hG Try.func14 tx14 (Eq.mpr (eq14 k) ?_)
  replace hk : k (.bool true) [] := hk
  unfold vc14
  simp only [Var.p, v50, v51, v47, v18, v27, v20, v30, v32, v52, v35, v22, v17, true_and]
  repeat' apply And.intro
  all_goals first
    | exact hk
    | exact allLL (by decide +kernel)
    | exact all_of (by decide +kernel)
    | decide +kernel
end Go.Abs.King
end

section
/- What comes in: arguments that can be read are plain data, of which all cells are known. -/
namespace Go.Abs
open Go.ChangeShapes Go.WideShapes Go.RowKit

/-- All that lies in a world is known, for good. -/
def knowAll (w : World) : Know where
  cells := fun b => match w.heap[b]? with
    | some (.cells cs _ _) => some cs
    | _ => none
  inv := fun _ => none
  y := none

theorem knowAll_cells {w : World} {b : Nat} {cs : Array Value} (h : (knowAll w).cells b = some cs) : ∃ e fz, w.heap[b]? = some (.cells cs e fz) := by
  simp only [knowAll] at h
  split at h
  · rename_i cs' e fz hb
    cases h
    exact ⟨e, fz, hb⟩
  · cases h

theorem wok_all (w : World) : WOk (fun b => b < w.heap.size) (knowAll w) w where
  knows := ⟨fun b cs h => knowAll_cells h, fun b p h => by cases h⟩
  lt := fun b h => h
  inv := fun b p h => by cases h
  apart := fun b p h => by cases h

theorem below_of_kept {w w' : World} (h : Kept (fun b => b < w.heap.size) w w') : Below w.heap.size w w' := ⟨h.os, h.tape, h.output, h.size, fun k hk => h.block k hk⟩

theorem cells_slab {w : World} {base : Nat} {a : Addr} {n : Nat} {cs : List Value} (h : w.cells? base a n = some cs) (hn : 0 < n) :
    a.spot = none ∧ ∃ arr, (knowAll w).cells a.block = some arr ∧ cs = slab arr a.off n := by
  obtain ⟨_, hl, hc⟩ := World.cells?_some h
  have h0 := hc 0 hn
  have e0 : a.add 0 = a := by simp [Addr.add]
  rw [e0, List.getElem?_eq_getElem (by omega)] at h0
  have hs := World.cell?_spot h0
  refine ⟨hs, ?_⟩
  have hb : ∃ arr e fz, w.heap[a.block]? = some (.cells arr e fz) := by
    unfold World.cell? at h0
    split at h0
    · exact ⟨_, _, _, ‹_›⟩
    · cases h0
  obtain ⟨arr, e, fz, hb⟩ := hb
  refine ⟨arr, by simp only [knowAll, hb], ?_⟩
  have hcell : ∀ i, i < n → arr[a.off + i]? = cs[i]? := by
    intro i hi
    rw [← hc i hi]
    have e1 : (a.add i).block = a.block := by unfold Addr.add; split <;> rfl
    have e2 : (a.add i).off = a.off + i := by unfold Addr.add; split <;> simp_all
    have e3 : (a.add i).spot = none := by unfold Addr.add; split <;> simp_all
    unfold World.cell?
    rw [e1, hb]
    simp only [e3, e2, Option.isSome_none, Bool.false_eq_true, if_false]
  apply List.ext_getElem?
  intro i
  unfold slab
  rw [List.getElem?_take, List.getElem?_drop]
  by_cases hi : i < n
  · rw [if_pos hi, ← hcell i hi, Array.getElem?_toList]
  · rw [if_neg hi, List.getElem?_eq_none (by omega)]

/-- All numbers fit their kinds. -/
def Ty.wf : (t : Ty) → t.den → Prop
  | .int k, n => (Lit.int k n).wf = true
  | .bool, _ => True
  | .slice e, l => ∀ x ∈ (show List e.den from l), e.wf x
  | .pair a b, x => a.wf x.1 ∧ b.wf x.2

variable {H : Type} {enc : TypeId × Value → H} {P : Program} {w : World} {base : Nat} {spare : Nat → Bool} {held : Bool}

theorem trod_bool {t : TypeId} {fuel : Nat} {cs : List Value} {x : DataW H × List MemPlace} (ht : P.underlying t = some .bool) (h : DataW.trod enc P w base spare held fuel t cs = some x) : ∃ b, cs = [.bool b] := by
  cases fuel with
  | zero => simp [DataW.trod] at h
  | succ n =>
    unfold DataW.trod at h
    rw [ht] at h
    split at h <;> simp_all

theorem den_fields {f : TypeId → Option Ty} {K : Know} {n : Nat} {cs : List Value} (hsz : ∀ t ty, f t = some ty → P.cellsOf t = ty.size)
    (hf : ∀ t ty, f t = some ty → ∀ cs x, DataW.trod enc P w base spare held n t cs = some x → ∃ y : ty.den, DenRep K ty y cs ∧ ty.wf y) :
    ∀ (fs : List Field) (o : Nat) (ty : Ty), tyFields f fs o = some ty → cs.length = o + ty.size → (∀ a ∈ fs, ∃ x, DataW.trod enc P w base spare held n a.type ((cs.drop a.offset).take (P.cellsOf a.type)) = some x) → ∃ y : ty.den, DenRep K ty y (cs.drop o) ∧ ty.wf y
  | [], _, _, h, _, _ => by simp [tyFields] at h
  | [a], o, ty, h, hl, hx => by
    replace h : (if a.offset = o then f a.type else none) = some ty := h
    split at h
    · rename_i ho
      obtain ⟨x, hx⟩ := hx a (by simp)
      rw [hsz _ _ h, ho, List.take_of_length_le (by rw [List.length_drop]; omega)] at hx
      exact hf _ _ h _ _ hx
    · cases h
  | a :: b :: r, o, ty, h, hl, hx => by
    replace h : (if a.offset = o then (match f a.type with
      | some x => match tyFields f (b :: r) (o + x.size) with
        | some y => some (.pair x y)
        | none => none
      | none => none) else none) = some ty := h
    split at h
    · rename_i ho
      split at h
      · rename_i x1 h1
        split at h
        · rename_i x2 h2
          cases h
          simp only [Ty.size] at hl
          obtain ⟨z, hz⟩ := hx a (by simp)
          rw [hsz _ _ h1, ho] at hz
          obtain ⟨y1, d1, w1⟩ := hf _ _ h1 _ _ hz
          obtain ⟨y2, d2, w2⟩ := den_fields hsz hf (b :: r) (o + x1.size) x2 h2 (by omega) (fun c hc => hx c (List.mem_cons_of_mem _ hc))
          refine ⟨(y1, y2), ⟨_, _, ?_, d1, d2⟩, ⟨w1, w2⟩⟩
          rw [← List.drop_drop]
          exact (List.take_append_drop _ _).symm
        · cases h
      · cases h
    · cases h

theorem den_of_trod : ∀ (d : Nat) (t : TypeId) (ty : Ty), tyOf P d t = some ty → ∀ (fuel : Nat) (cs : List Value) (x : DataW H × List MemPlace), DataW.trod enc P w base spare held fuel t cs = some x → ∃ y : ty.den, DenRep (knowAll w) ty y cs ∧ ty.wf y := by
  intro d
  induction d with
  | zero => intro t ty h; simp [tyOf] at h
  | succ d ih =>
    intro t ty h fuel cs x hx
    unfold tyOf at h
    split at h
    · rename_i i k hi hu
      split at h
      · cases h
        obtain ⟨n, rfl, _, hw⟩ := DataW.trod_int hu hx
        exact ⟨n, rfl, hw⟩
      · cases h
    · rename_i i hi hu
      split at h
      · cases h
        obtain ⟨b, rfl⟩ := trod_bool hu hx
        exact ⟨b, rfl, trivial⟩
      · cases h
    · rename_i i e hi hu
      split at h
      · split at h
        · rename_i a ha
          cases h
          obtain ⟨_, _, hi2, hi3, _, _⟩ := tyOf_info d e a ha
          have hco : P.cellsOf e = a.size := by simp only [Program.cellsOf, hi2, Option.map_some, Option.getD_some, hi3]
          rcases Deep.open_slice hu hx with ⟨rfl, _⟩ | ⟨ad, len, cap, m, n, D, Pl, rfl, _, hlc, _, hm, _, hel⟩
          · exact ⟨([] : List a.den), ⟨none, 0, rfl, Nat.le_refl _, Or.inl rfl⟩, fun x hx => by cases hx⟩
          · have hlm : len ≤ m := by rw [hm]; split <;> omega
            have hall : ∀ i, i < len → ∃ y : a.den, a.wf y ∧ ad.spot = none ∧ ∃ arr, (knowAll w).cells ad.block = some arr ∧ DenRep (knowAll w) a y (slab arr (ad.off + i * a.size) a.size) := by
              intro i hi
              obtain ⟨cs', hc1, hc2⟩ := hel i (by omega)
              rw [hco] at hc1
              obtain ⟨s1, arr, s2, s3⟩ := cells_slab hc1 a.size_pos
              obtain ⟨y, y1, y2⟩ := ih e a ha n cs' _ hc2
              have e1 : (ad.add (i * a.size)).block = ad.block := by unfold Addr.add; split <;> rfl
              have e2 : (ad.add (i * a.size)).off = ad.off + i * a.size := by unfold Addr.add; split <;> simp_all
              have e3 : ad.spot = none := by
                obtain ⟨cs0, hc0, _⟩ := hel 0 (by omega)
                rw [hco, Nat.zero_mul] at hc0
                have e0 : ad.add 0 = ad := by simp [Addr.add]
                rw [e0] at hc0
                exact (cells_slab hc0 a.size_pos).1
              rw [e1] at s2
              rw [e2] at s3
              rw [s3] at y1
              exact ⟨y, y2, e3, arr, s2, y1⟩
            let g : Nat → a.den := fun i => if h : i < len then Classical.choose (hall i h) else a.zero
            have hg : ∀ i (h : i < len), g i = Classical.choose (hall i h) := fun i h => by simp only [g, dif_pos h]
            refine ⟨((List.range len).map g : List a.den), ⟨some ad, cap, ?_, ?_, ?_⟩, ?_⟩
            · rw [List.length_map, List.length_range]
            · rw [List.length_map, List.length_range]; exact hlc
            · rcases Nat.eq_zero_or_pos len with h0 | h0
              · subst h0; exact Or.inl rfl
              · have h1 := Classical.choose_spec (hall 0 h0)
                obtain ⟨_, s1, arr, s2, _⟩ := h1
                refine Or.inr ⟨ad.block, ad.off, arr, ?_, s2, ?_⟩
                · rw [← s1]
                · intro i hi
                  rw [List.length_map, List.length_range] at hi
                  have h2 := Classical.choose_spec (hall i hi)
                  obtain ⟨_, _, arr', s3, s4⟩ := h2
                  rw [s2] at s3
                  cases s3
                  rw [List.getElem_map, List.getElem_range, hg i hi]
                  exact s4
            · intro x hx
              obtain ⟨i, hi, rfl⟩ := List.mem_map.1 hx
              have hi := List.mem_range.1 hi
              rw [hg i hi]
              exact (Classical.choose_spec (hall i hi)).1
        · cases h
      · cases h
    · rename_i i fs hi hu
      split at h
      · rename_i a ha
        split at h
        · rename_i hs
          cases h
          obtain ⟨xs, n, rfl, _, hl, hxl, hx⟩ := DataW.trod_struct hu hx
          have hco : P.cellsOf t = ty.size := by simp only [Program.cellsOf, hi, Option.map_some, Option.getD_some, hs]
          have := den_fields (K := knowAll w) (cs := cs) (n := n) (enc := enc) (P := P) (w := w) (base := base) (spare := spare) (held := held) (f := tyOf P d) (fun t ty h => by
              obtain ⟨_, _, hi2, hi3, _, _⟩ := tyOf_info d t ty h
              simp only [Program.cellsOf, hi2, Option.map_some, Option.getD_some, hi3]) (fun t ty h cs x hx => ih t ty h n cs x hx) fs.toList 0 ty ha (by omega) (fun f hf => by
              obtain ⟨i, hi, rfl⟩ := List.getElem_of_mem hf
              have hi' : i < fs.size := by simpa using hi
              have := hx i fs[i] (by simp [hi'])
              rw [List.getElem?_eq_getElem (by omega)] at this
              exact ⟨_, by simpa using this⟩)
          simpa using this
        · cases h
      · cases h
    · cases h

def isStructT (P : Program) (t : TypeId) : Bool := match P.underlying t with
  | some (.struct _) => true
  | _ => false
def isSliceT (P : Program) (t : TypeId) : Bool := match P.underlying t with
  | some (.slice _) => true
  | _ => false
theorem isStructT_spec {t : TypeId} (h : isStructT P t = true) : ∃ fs, P.underlying t = some (.struct fs) := by
  unfold isStructT at h
  split at h
  · exact ⟨_, ‹_›⟩
  · cases h
theorem isSliceT_spec {t : TypeId} (h : isSliceT P t = true) : ∃ e, P.underlying t = some (.slice e) := by
  unfold isSliceT at h
  split at h
  · exact ⟨_, ‹_›⟩
  · cases h

/-- An argument that is a struct. -/
theorem arg_struct {r : Reach} {b0 d : Nat} {t : TypeId} (ty : Ty) {v : Value} {dd : DataW H} {ps : List MemPlace} (hs : isStructT P t = true) (ht : tyOf P d t = some ty)
    (hv : Value.okWide P w r b0 t v) (h : DataW.Trod enc P w base spare held t v dd ps) (Hs : Nat → Option Hd) : ∃ y : ty.den, Rep (knowAll w) Hs (.agg (ty.cells y)) v ∧ ty.wf y := by
  obtain ⟨fs, hu⟩ := isStructT_spec hs
  obtain ⟨cs, rfl, _⟩ := okWide_struct hu hv
  obtain ⟨fuel, hf⟩ := h
  obtain ⟨y, h1, h2⟩ := den_of_trod d t ty ht fuel _ _ hf
  refine ⟨y, ?_, h2⟩
  simp only [Rep]
  exact ⟨cs, rfl, repL_cells ty y _ h1⟩

/-- An argument that is a slice. -/
theorem arg_slice {r : Reach} {b0 d : Nat} {t : TypeId} (ty : Ty) {v : Value} {dd : DataW H} {ps : List MemPlace} (hs : isSliceT P t = true) (ht : tyOf P d t = some (.slice ty))
    (hv : Value.okWide P w r b0 t v) (h : DataW.Trod enc P w base spare held t v dd ps) (Hs : Nat → Option Hd) : ∃ l : List ty.den, Rep (knowAll w) Hs (.imm ty l false) v ∧ ∀ x ∈ l, ty.wf x := by
  obtain ⟨e, hu⟩ := isSliceT_spec hs
  obtain ⟨a, len, cap, rfl⟩ := okWide_slice hu hv
  obtain ⟨fuel, hf⟩ := h
  obtain ⟨y, h1, h2⟩ := den_of_trod d t (.slice ty) ht fuel _ _ hf
  refine ⟨(show List ty.den from y), ?_, h2⟩
  obtain ⟨ba, ca, e1, e2, e3⟩ := h1
  simp only [Rep]
  refine ⟨ba, ca, ?_, e2, ⟨fun h => absurd h (by simp), e3⟩⟩
  simpa [Value.cells] using e1

/-- An argument that is a number. -/
theorem arg_int {r : Reach} {b0 : Nat} {t : TypeId} (k : IntKind) {v : Value} {dd : DataW H} {ps : List MemPlace} (hu : P.underlying t = some (.int k))
    (hv : Value.okWide P w r b0 t v) (h : DataW.Trod enc P w base spare held t v dd ps) (Hs : Nat → Option Hd) : ∃ n, Rep (knowAll w) Hs (.int k n) v ∧ (Lit.int k n).wf = true := by
  obtain ⟨n, rfl, _, _, h2⟩ := open_int hu hv h
  exact ⟨n, by simp [Rep], h2⟩

/-- A function that returns true, at arguments that can be read, does so, and leaves all as it was. -/
theorem law_calls {P : Program} {f : FuncId} {gs : List AVal} {W : World} {vs : List Value} (h : ASpec P f gs [] (fun v _ => v = .bool true)) (hr : RepL (knowAll W) (fun _ => none) gs vs) :
    Calls P f vs.toArray W fun e w' => e = .returned (.bool true) ∧ Below W.heap.size W w' := by
  refine (h (fun b => b < W.heap.size) (knowAll W) (fun _ => none) W vs (wok_all W) hr ⟨fun r c f hd h => (by cases h), fun r c hd b h => (by cases h), fun r c hd b h => (by cases h), fun r r' c c' hd hd' b h => (by cases h)⟩ (fun _ _ => rfl)).mono ?_
  rintro e w' ⟨v, r, RM, K', H', rfl, rfl, _, hrep, _, _, _, hk, _⟩
  simp only [Rep] at hrep
  subst hrep
  exact ⟨rfl, below_of_kept hk⟩
theorem byte_wf {n : Int} (h : (Lit.int .u8 n).wf = true) : 0 ≤ n ∧ n ≤ 255 := by
  unfold Lit.wf at h
  rw [Bool.and_eq_true, decide_eq_true_eq, decide_eq_true_eq] at h
  have e1 : IntKind.min .u8 = 0 := by decide
  have e2 : IntKind.max .u8 = 255 := by decide
  omega
end Go.Abs
end

section
/- Functions that keep contracts, put together. -/
namespace Go.Abs

/-- A function keeps its contract at each of these shapes of arguments. -/
structure Keeps (P : Program) (f : FuncId) (vs : List Var) : Prop where
  code : ∃ fn c, P.funcs[f]? = some fn ∧ fn.body = some c ∧ (fn.name == "runtime.NumGoroutine") = false
  kept : ∀ v ∈ vs, v.Kept P f

theorem Keeps.add {P : Program} {f : FuncId} {vs : List Var} {l : List (FuncId × Contract)} (h : Keeps P f vs) (hG : Good P (envOf l)) : Good P (envOf ((f, mkC vs) :: l)) := by
  obtain ⟨fn, c, h1, h2, h3⟩ := h.code
  exact good_cons hG h1 h2 h3 (spec_vars vs h.kept)

/-- A function's code is there. -/
structure HasCode (P : Program) (f : FuncId) : Prop where
  code : ∃ fn c, P.funcs[f]? = some fn ∧ fn.body = some c ∧ (fn.name == "runtime.NumGoroutine") = false
theorem hasCode {P : Program} {f : FuncId} {fn : Func} (hf : P.funcs[f]? = some fn) (hb : fn.body.isSome = true) (hn : (fn.name == "runtime.NumGoroutine") = false) : HasCode P f := by
  obtain ⟨c, hc⟩ := Option.isSome_iff_exists.1 hb
  exact ⟨fn, c, hf, hc, hn⟩

theorem keeps1 {P : Program} {f : FuncId} {v : Var} (h : HasCode P f) (hv : v.Kept P f) : Keeps P f [v] := ⟨h.code, fun v' hm => by simp at hm; subst hm; exact hv⟩
theorem keeps2 {P : Program} {f : FuncId} {v v2 : Var} (h : HasCode P f) (hv : v.Kept P f) (hv2 : v2.Kept P f) : Keeps P f [v, v2] := ⟨h.code, fun v' hm => by simp at hm; rcases hm with rfl | rfl; exact hv; exact hv2⟩
theorem Keeps.one {P : Program} {f : FuncId} {v : Var} (h : Keeps P f [v]) : v.Kept P f := h.kept v (by simp)

theorem kept_zero {P : Program} {f : FuncId} {v : Var} (μ : v.S.den Unit → Nat) : (v.below μ 0).Kept P f := fun x hx => absurd hx.2 (Nat.not_lt_zero _)
theorem kept_all {P : Program} {f : FuncId} {v : Var} (μ : v.S.den Unit → Nat) (h : ∀ n, (v.below μ n).Kept P f) : v.Kept P f := fun x hx k hk => h (μ x + 1) x ⟨hx, Nat.lt_succ_self _⟩ k hk
theorem keeps_rec {P : Program} {f : FuncId} {v : Var} (μ : v.S.den Unit → Nat) (hc : HasCode P f) (step : ∀ n, Keeps P f [v.below μ n] → (v.below μ (n + 1)).Kept P f) : Keeps P f [v] := by
  have key : ∀ n, (v.below μ n).Kept P f := by
    intro n
    induction n with
    | zero => exact kept_zero μ
    | succ n ih => exact step n (keeps1 hc ih)
  exact keeps1 hc (kept_all μ key)

theorem aspec_mono {P : Program} {f : FuncId} {gs : List AVal} {cs : List Cont} {k k' : AVal → List Cont → Prop} (h : ASpec P f gs cs k) (hk : ∀ v c, k v c → k' v c) : ASpec P f gs cs k' := by
  intro F K H w vs h1 h2 h3 h4
  refine (h F K H w vs h1 h2 h3 h4).mono ?_
  rintro e w' ⟨v, r, RM, K', H', g1, g2, g3⟩
  exact ⟨v, r, RM, K', H', g1, hk _ _ g2, g3⟩
end Go.Abs
end

section
/- The contracts put together (printed by a program). -/
open Go.Proofs
set_option maxRecDepth 100000
namespace Go.Abs.King
theorem hc15 : HasCode Try.prog 15 := hasCode Try.func15 (by kernel_rfl) (by kernel_rfl)
theorem g15 : Keeps Try.prog 15 [v15] := keeps1 hc15 (k15 good_nil)
theorem hc16 : HasCode Try.prog 16 := hasCode Try.func16 (by kernel_rfl) (by kernel_rfl)
theorem g16 : Keeps Try.prog 16 [v16] := keeps1 hc16 (k16 good_nil)
theorem hc47 : HasCode Try.prog 47 := hasCode Try.func47 (by kernel_rfl) (by kernel_rfl)
theorem g47 : Keeps Try.prog 47 [v47] := keeps1 hc47 (k47 good_nil)
theorem hc52 : HasCode Try.prog 52 := hasCode Try.func52 (by kernel_rfl) (by kernel_rfl)
theorem g52 : Keeps Try.prog 52 [v52] := keeps1 hc52 (k52 good_nil)
theorem hc50 : HasCode Try.prog 50 := hasCode Try.func50 (by kernel_rfl) (by kernel_rfl)
theorem g50 : Keeps Try.prog 50 [v50] := keeps1 hc50 (k50 (g47.add (g52.add good_nil)))
theorem hc51 : HasCode Try.prog 51 := hasCode Try.func51 (by kernel_rfl) (by kernel_rfl)
theorem g51 : Keeps Try.prog 51 [v51] := keeps1 hc51 (k51 (g47.add (g52.add good_nil)))
theorem hc54 : HasCode Try.prog 54 := hasCode Try.func54 (by kernel_rfl) (by kernel_rfl)
theorem g54 : Keeps Try.prog 54 [v54] := keeps1 hc54 (k54 good_nil)
theorem hc78 : HasCode Try.prog 78 := hasCode Try.func78 (by kernel_rfl) (by kernel_rfl)
theorem g78 : Keeps Try.prog 78 [v78] := keeps1 hc78 (k78 good_nil)
theorem hc53 : HasCode Try.prog 53 := hasCode Try.func53 (by kernel_rfl) (by kernel_rfl)
theorem g53 : Keeps Try.prog 53 [v53] := keeps1 hc53 (k53 (g78.add good_nil))
theorem hc81 : HasCode Try.prog 81 := hasCode Try.func81 (by kernel_rfl) (by kernel_rfl)
theorem g81 : Keeps Try.prog 81 [v81] := keeps1 hc81 (k81 good_nil)
theorem hc96 : HasCode Try.prog 96 := hasCode Try.func96 (by kernel_rfl) (by kernel_rfl)
theorem g96 : Keeps Try.prog 96 [v96] := keeps1 hc96 (k96 good_nil)
theorem hc83 : HasCode Try.prog 83 := hasCode Try.func83 (by kernel_rfl) (by kernel_rfl)
theorem g83 : Keeps Try.prog 83 [v83] := keeps1 hc83 (k83 (g96.add good_nil))
theorem hc82 : HasCode Try.prog 82 := hasCode Try.func82 (by kernel_rfl) (by kernel_rfl)
theorem g82 : Keeps Try.prog 82 [v82] := keeps1 hc82 (k82 (g83.add good_nil))
theorem hc95 : HasCode Try.prog 95 := hasCode Try.func95 (by kernel_rfl) (by kernel_rfl)
theorem g95 : Keeps Try.prog 95 [v95a, v95b] := keeps2 hc95 (k95a (g81.add (g82.add good_nil))) (k95b (g81.add (g82.add good_nil)))
theorem hc80 : HasCode Try.prog 80 := hasCode Try.func80 (by kernel_rfl) (by kernel_rfl)
theorem g80 : Keeps Try.prog 80 [v80a, v80b] := keeps2 hc80 (k80a (g95.add good_nil)) (k80b (g95.add good_nil))
theorem hc56 : HasCode Try.prog 56 := hasCode Try.func56 (by kernel_rfl) (by kernel_rfl)
theorem g56 : Keeps Try.prog 56 [v56] := keeps1 hc56 (k56 (g80.add good_nil))
theorem hc64 : HasCode Try.prog 64 := hasCode Try.func64 (by kernel_rfl) (by kernel_rfl)
theorem g64 : Keeps Try.prog 64 [v64] := keeps1 hc64 (k64 good_nil)
theorem hc65 : HasCode Try.prog 65 := hasCode Try.func65 (by kernel_rfl) (by kernel_rfl)
theorem g65 : Keeps Try.prog 65 [v65] := keeps1 hc65 (k65 (g56.add good_nil))
theorem hc85 : HasCode Try.prog 85 := hasCode Try.func85 (by kernel_rfl) (by kernel_rfl)
theorem g85 : Keeps Try.prog 85 [v85a, v85b] := keeps2 hc85 (k85a (g64.add (g65.add good_nil))) (k85b (g64.add (g65.add good_nil)))
theorem hc63 : HasCode Try.prog 63 := hasCode Try.func63 (by kernel_rfl) (by kernel_rfl)
theorem g63 : Keeps Try.prog 63 [v63a, v63b] := keeps2 hc63 (k63a (g85.add good_nil)) (k63b (g85.add good_nil))
theorem hc22 : HasCode Try.prog 22 := hasCode Try.func22 (by kernel_rfl) (by kernel_rfl)
theorem g22 : Keeps Try.prog 22 [v22] := keeps1 hc22 (k22 (g56.add (g63.add good_nil)))
theorem hc79 : HasCode Try.prog 79 := hasCode Try.func79 (by kernel_rfl) (by kernel_rfl)
theorem g79 : Keeps Try.prog 79 [v79] := keeps1 hc79 (k79 good_nil)
theorem hc55 : HasCode Try.prog 55 := hasCode Try.func55 (by kernel_rfl) (by kernel_rfl)
theorem g55 : Keeps Try.prog 55 [v55] := keeps1 hc55 (k55 (g22.add (g79.add good_nil)))
theorem hc68 : HasCode Try.prog 68 := hasCode Try.func68 (by kernel_rfl) (by kernel_rfl)
theorem g68 : Keeps Try.prog 68 [v68] := keeps1 hc68 (k68 good_nil)
theorem hc57 : HasCode Try.prog 57 := hasCode Try.func57 (by kernel_rfl) (by kernel_rfl)
theorem g57 : Keeps Try.prog 57 [v57] := keeps1 hc57 (k57 (g68.add (g80.add good_nil)))
theorem hc18 : HasCode Try.prog 18 := hasCode Try.func18 (by kernel_rfl) (by kernel_rfl)
theorem g18 : Keeps Try.prog 18 [v18] := keeps1 hc18 (k18 (g55.add (g56.add (g57.add good_nil))))
theorem hc66 : HasCode Try.prog 66 := hasCode Try.func66 (by kernel_rfl) (by kernel_rfl)
theorem g66 : Keeps Try.prog 66 [v66] := keeps_rec m66 hc66 (fun n h => k66 n (g57.add (h.add good_nil)))
theorem hc25 : HasCode Try.prog 25 := hasCode Try.func25 (by kernel_rfl) (by kernel_rfl)
theorem g25 : Keeps Try.prog 25 [v25] := keeps1 hc25 (k25 (g55.add (g66.add good_nil)))
theorem hc27 : HasCode Try.prog 27 := hasCode Try.func27 (by kernel_rfl) (by kernel_rfl)
theorem g27 : Keeps Try.prog 27 [v27] := keeps1 hc27 (k27 (g55.add (g68.add good_nil)))
theorem hc76 : HasCode Try.prog 76 := hasCode Try.func76 (by kernel_rfl) (by kernel_rfl)
theorem g76 : Keeps Try.prog 76 [v76] := keeps1 hc76 (k76 good_nil)
theorem hc60 : HasCode Try.prog 60 := hasCode Try.func60 (by kernel_rfl) (by kernel_rfl)
theorem g60 : Keeps Try.prog 60 [v60] := keeps1 hc60 (k60 good_nil)
theorem hc84 : HasCode Try.prog 84 := hasCode Try.func84 (by kernel_rfl) (by kernel_rfl)
theorem g84 : Keeps Try.prog 84 [v84] := keeps1 hc84 (k84 (g60.add good_nil))
theorem hc59 : HasCode Try.prog 59 := hasCode Try.func59 (by kernel_rfl) (by kernel_rfl)
theorem g59 : Keeps Try.prog 59 [v59] := keeps1 hc59 (k59 (g55.add (g56.add (g76.add (g84.add good_nil)))))
theorem hc20 : HasCode Try.prog 20 := hasCode Try.func20 (by kernel_rfl) (by kernel_rfl)
theorem g20 : Keeps Try.prog 20 [v20] := keeps1 hc20 (k20 (g59.add (g60.add good_nil)))
theorem hc98 : HasCode Try.prog 98 := hasCode Try.func98 (by kernel_rfl) (by kernel_rfl)
theorem g98 : Keeps Try.prog 98 [v98] := keeps1 hc98 (k98 good_nil)
theorem hc86 : HasCode Try.prog 86 := hasCode Try.func86 (by kernel_rfl) (by kernel_rfl)
theorem g86 : Keeps Try.prog 86 [v86] := keeps1 hc86 (k86 (g98.add good_nil))
theorem hc89 : HasCode Try.prog 89 := hasCode Try.func89 (by kernel_rfl) (by kernel_rfl)
theorem g89 : Keeps Try.prog 89 [v89] := keeps1 hc89 (k89 good_nil)
theorem hc88 : HasCode Try.prog 88 := hasCode Try.func88 (by kernel_rfl) (by kernel_rfl)
theorem g88 : Keeps Try.prog 88 [v88] := keeps1 hc88 (k88 (g89.add good_nil))
theorem hc99 : HasCode Try.prog 99 := hasCode Try.func99 (by kernel_rfl) (by kernel_rfl)
theorem g99 : Keeps Try.prog 99 [v99] := keeps1 hc99 (k99 (g60.add (g86.add (g83.add good_nil))))
theorem hc94 : HasCode Try.prog 94 := hasCode Try.func94 (by kernel_rfl) (by kernel_rfl)
theorem g94 : Keeps Try.prog 94 [v94] := keeps1 hc94 (k94 good_nil)
theorem hc69 : HasCode Try.prog 69 := hasCode Try.func69 (by kernel_rfl) (by kernel_rfl)
theorem hc87 : HasCode Try.prog 87 := hasCode Try.func87 (by kernel_rfl) (by kernel_rfl)
theorem both69 : ∀ n, (v69n n).Kept Try.prog 69 ∧ (v87n n).Kept Try.prog 87 := by
  intro n
  induction n with
  | zero => exact ⟨kept_zero m69, kept_zero m87⟩
  | succ n ih =>
    have h87 : (v87n (n + 1)).Kept Try.prog 87 := k87 n (g99.add (g94.add (g84.add ((keeps1 hc69 ih.1).add good_nil))))
    exact ⟨k69 (n + 1) (g86.add ((keeps1 hc87 h87).add (g88.add good_nil))), h87⟩
theorem g69 : Keeps Try.prog 69 [v69] := keeps1 hc69 (kept_all m69 (fun n => (both69 n).1))
theorem g87 : Keeps Try.prog 87 [v87] := keeps1 hc87 (kept_all m87 (fun n => (both69 n).2))
theorem hc30 : HasCode Try.prog 30 := hasCode Try.func30 (by kernel_rfl) (by kernel_rfl)
theorem g30 : Keeps Try.prog 30 [v30] := keeps1 hc30 (k30 (g59.add (g69.add good_nil)))
theorem hc70 : HasCode Try.prog 70 := hasCode Try.func70 (by kernel_rfl) (by kernel_rfl)
theorem g70 : Keeps Try.prog 70 [v70] := keeps1 hc70 (k70 (g69.add (g87.add good_nil)))
theorem hc32 : HasCode Try.prog 32 := hasCode Try.func32 (by kernel_rfl) (by kernel_rfl)
theorem g32 : Keeps Try.prog 32 [v32] := keeps1 hc32 (k32 (g59.add (g69.add (g70.add good_nil))))
theorem hc91 : HasCode Try.prog 91 := hasCode Try.func91 (by kernel_rfl) (by kernel_rfl)
theorem g91 : Keeps Try.prog 91 [v91] := keeps1 hc91 (k91 (g56.add good_nil))
theorem hc93 : HasCode Try.prog 93 := hasCode Try.func93 (by kernel_rfl) (by kernel_rfl)
theorem g93 : Keeps Try.prog 93 [v93] := keeps1 hc93 (k93 good_nil)
theorem hc100 : HasCode Try.prog 100 := hasCode Try.func100 (by kernel_rfl) (by kernel_rfl)
theorem g100 : Keeps Try.prog 100 [v100a, v100b] := keeps2 hc100 (k100a (g91.add (g93.add good_nil))) (k100b (g91.add (g93.add good_nil)))
theorem hc92 : HasCode Try.prog 92 := hasCode Try.func92 (by kernel_rfl) (by kernel_rfl)
theorem g92 : Keeps Try.prog 92 [v92a, v92b] := keeps2 hc92 (k92a (g100.add good_nil)) (k92b (g100.add good_nil))
theorem hc72 : HasCode Try.prog 72 := hasCode Try.func72 (by kernel_rfl) (by kernel_rfl)
theorem g72 : Keeps Try.prog 72 [v72] := keeps1 hc72 (k72 (g92.add (g56.add good_nil)))
theorem hc35 : HasCode Try.prog 35 := hasCode Try.func35 (by kernel_rfl) (by kernel_rfl)
theorem g35 : Keeps Try.prog 35 [v35] := keeps1 hc35 (k35 (g55.add (g72.add good_nil)))
theorem hc77 : HasCode Try.prog 77 := hasCode Try.func77 (by kernel_rfl) (by kernel_rfl)
theorem r77 {n : Nat} (h : (v77.below m77 (n + 1)).Kept Try.prog 77) : (v77r.below m77 (n + 1)).Kept Try.prog 77 := by
  rintro x ⟨⟨h1, h2, h3, h4, h5⟩, h6⟩ k hk
  refine h x ⟨⟨h1, h2, h3, h4, Int.le_trans (by decide) h5⟩, h6⟩ k ?_
  have e : lowLooks x.1 x.2.1 x.2.2.2.2.1 = false := decide_eq_false (by omega)
  show br (lowLooks x.1 x.2.1 x.2.2.2.2.1) _ _
  rw [e]
  exact hk
theorem g77r : Keeps Try.prog 77 [v77r] := keeps_rec m77 hc77 (fun n h => r77 (k77 n (g69.add (g70.add (g94.add (g84.add (g60.add (h.add good_nil))))))))
theorem g77 : Keeps Try.prog 77 [v77] := keeps1 hc77 (fun x hx k hk => k77 (m77 x) (g69.add (g70.add (g94.add (g84.add (g60.add ((keeps1 (v := v77n (m77 x)) hc77 (fun y (hy : v77r.pre y ∧ m77 y < m77 x) => g77r.one y hy.1)).add good_nil)))))) x ⟨hx, Nat.lt_succ_self _⟩ k hk)
theorem hc37 : HasCode Try.prog 37 := hasCode Try.func37 (by kernel_rfl) (by kernel_rfl)
theorem g37 : Keeps Try.prog 37 [v37] := keeps1 hc37 (k37 (g55.add (g76.add (g69.add (g77.add good_nil)))))
theorem hc23 : HasCode Try.prog 23 := hasCode Try.func23 (by kernel_rfl) (by kernel_rfl)
theorem g23 : Keeps Try.prog 23 [v23] := keeps1 hc23 (k23 good_nil)
theorem hc73 : HasCode Try.prog 73 := hasCode Try.func73 (by kernel_rfl) (by kernel_rfl)
theorem g73 : Keeps Try.prog 73 [v73] := keeps1 hc73 (k73 good_nil)
theorem hc74 : HasCode Try.prog 74 := hasCode Try.func74 (by kernel_rfl) (by kernel_rfl)
theorem g74 : Keeps Try.prog 74 [v74] := keeps1 hc74 (k74 good_nil)
theorem hc75 : HasCode Try.prog 75 := hasCode Try.func75 (by kernel_rfl) (by kernel_rfl)
theorem g75 : Keeps Try.prog 75 [v75] := keeps_rec m75 hc75 (fun n h => k75 n (h.add good_nil))
theorem hc36 : HasCode Try.prog 36 := hasCode Try.func36 (by kernel_rfl) (by kernel_rfl)
theorem g36 : Keeps Try.prog 36 [v36] := keeps1 hc36 (k36 (g23.add (g73.add (g74.add (g75.add good_nil)))))
theorem hc24 : HasCode Try.prog 24 := hasCode Try.func24 (by kernel_rfl) (by kernel_rfl)
theorem g24 : Keeps Try.prog 24 [v24] := keeps1 hc24 (k24 good_nil)
theorem hc29 : HasCode Try.prog 29 := hasCode Try.func29 (by kernel_rfl) (by kernel_rfl)
theorem g29 : Keeps Try.prog 29 [v29] := keeps1 hc29 (k29 (g24.add good_nil))
theorem hc17 : HasCode Try.prog 17 := hasCode Try.func17 (by kernel_rfl) (by kernel_rfl)
theorem g17 : Keeps Try.prog 17 [v17] := keeps1 hc17 (k17 (g50.add (g51.add (g47.add (g54.add (g53.add (g18.add (g25.add (g27.add (g20.add (g30.add (g32.add (g35.add (g37.add (g36.add (g29.add (g24.add good_nil)))))))))))))))))
theorem hc43 : HasCode Try.prog 43 := hasCode Try.func43 (by kernel_rfl) (by kernel_rfl)
theorem g43 : Keeps Try.prog 43 [v43] := keeps1 hc43 (k43 good_nil)
theorem hc44 : HasCode Try.prog 44 := hasCode Try.func44 (by kernel_rfl) (by kernel_rfl)
theorem g44 : Keeps Try.prog 44 [v44] := keeps1 hc44 (k44 good_nil)
theorem hc58 : HasCode Try.prog 58 := hasCode Try.func58 (by kernel_rfl) (by kernel_rfl)
theorem g58 : Keeps Try.prog 58 [v58] := keeps1 hc58 (k58 (g44.add good_nil))
theorem hc19 : HasCode Try.prog 19 := hasCode Try.func19 (by kernel_rfl) (by kernel_rfl)
theorem g19 : Keeps Try.prog 19 [v19] := keeps1 hc19 (k19 (g23.add (g43.add (g58.add good_nil))))
theorem hc61 : HasCode Try.prog 61 := hasCode Try.func61 (by kernel_rfl) (by kernel_rfl)
theorem g61 : Keeps Try.prog 61 [v61] := keeps1 hc61 (k61 (g23.add good_nil))
theorem hc62 : HasCode Try.prog 62 := hasCode Try.func62 (by kernel_rfl) (by kernel_rfl)
theorem g62 : Keeps Try.prog 62 [v62] := keeps1 hc62 (k62 good_nil)
theorem hc41 : HasCode Try.prog 41 := hasCode Try.func41 (by kernel_rfl) (by kernel_rfl)
theorem g41 : Keeps Try.prog 41 [v41] := keeps1 hc41 (k41 good_nil)
theorem hc21 : HasCode Try.prog 21 := hasCode Try.func21 (by kernel_rfl) (by kernel_rfl)
theorem g21 : Keeps Try.prog 21 [v21] := keeps1 hc21 (k21 (g61.add (g62.add (g41.add good_nil))))
theorem hc3 : HasCode Try.prog 3 := hasCode Try.func3 (by kernel_rfl) (by kernel_rfl)
theorem g3 : Keeps Try.prog 3 [v3] := keeps1 hc3 (k3 (g15.add (g16.add (g17.add (g18.add (g19.add (g20.add (g21.add (g22.add (g23.add (g24.add good_nil)))))))))))
end Go.Abs.King
end

section
/- The contracts put together (printed by a program). -/
open Go.Proofs
set_option maxRecDepth 100000
namespace Go.Abs.King
theorem hc14 : HasCode Try.prog 14 := hasCode Try.func14 (by kernel_rfl) (by kernel_rfl)
theorem g14 : Keeps Try.prog 14 [v14] := keeps1 hc14 (k14 (g50.add (g51.add (g47.add (g18.add (g27.add (g20.add (g30.add (g32.add (g52.add (g35.add (g22.add (g17.add good_nil)))))))))))))
end Go.Abs.King
end

