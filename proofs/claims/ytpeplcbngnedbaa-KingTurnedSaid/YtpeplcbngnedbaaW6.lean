/- Part 6 of the road to this seat's statements: lemmas about a small interpreter over the model's code, and about the functions that it is used on. No condition of its own. -/
import Derived.Test.YtpeplcbngnedbaaProg
import Derived.Test.YtpeplcbngnedbaaW5

section
/- Conditions and their equations, printed by a program: fifth part. -/
open Go.Proofs
set_option maxRecDepth 100000
set_option linter.unusedVariables false
namespace Go.Abs.King
def vc17  (k : AVal → List Cont → Prop) : Prop :=
  (Go.Abs.King.v50.p ()) ∧
  (Go.Abs.King.v51.p ()) ∧
  (Go.Abs.King.v47.p (((1 : Int) :: ((2 : Int) :: ([] : List Int))), ())) ∧
  (Go.Abs.King.v18.p ((3 : Int), ((((0 : Int) :: ((0 : Int) :: ((1 : Int) :: ([] : List Int)))) :: (((0 : Int) :: ((1 : Int) :: ((1 : Int) :: ([] : List Int)))) :: (((1 : Int) :: ((0 : Int) :: ((0 : Int) :: ([] : List Int)))) :: (((1 : Int) :: ((1 : Int) :: ((1 : Int) :: ([] : List Int)))) :: ([] : List (List Int)))))), (((1 : Int) :: ((2 : Int) :: ([] : List Int))), ())))) ∧
  (Go.Abs.King.v47.p (((0 : Int) :: ((1 : Int) :: ([] : List Int))), ())) ∧
  (Go.Abs.King.v18.p ((3 : Int), ((((0 : Int) :: ((0 : Int) :: ((1 : Int) :: ([] : List Int)))) :: (((0 : Int) :: ((1 : Int) :: ((1 : Int) :: ([] : List Int)))) :: (((1 : Int) :: ((0 : Int) :: ((0 : Int) :: ([] : List Int)))) :: (((1 : Int) :: ((1 : Int) :: ((1 : Int) :: ([] : List Int)))) :: ([] : List (List Int)))))), (((0 : Int) :: ((1 : Int) :: ([] : List Int))), ())))) ∧
  (Go.Abs.King.v47.p (((1 : Int) :: ((0 : Int) :: ([] : List Int))), ())) ∧
  (Go.Abs.King.v18.p ((3 : Int), ((((0 : Int) :: ((0 : Int) :: ((1 : Int) :: ([] : List Int)))) :: (((0 : Int) :: ((1 : Int) :: ((1 : Int) :: ([] : List Int)))) :: (((1 : Int) :: ((0 : Int) :: ((0 : Int) :: ([] : List Int)))) :: (((1 : Int) :: ((1 : Int) :: ((1 : Int) :: ([] : List Int)))) :: ([] : List (List Int)))))), (((1 : Int) :: ((0 : Int) :: ([] : List Int))), ())))) ∧
  (Go.Abs.King.v47.p (((0 : Int) :: ((1 : Int) :: ([] : List Int))), ())) ∧
  (Go.Abs.King.v18.p ((2 : Int), ((((0 : Int) :: ((0 : Int) :: ([] : List Int))) :: (((1 : Int) :: ((1 : Int) :: ([] : List Int))) :: (((0 : Int) :: ((0 : Int) :: ([] : List Int))) :: ([] : List (List Int))))), (((0 : Int) :: ((1 : Int) :: ([] : List Int))), ())))) ∧
  (Go.Abs.King.v25.p ((3 : Int), ((((0 : Int) :: ((0 : Int) :: ((1 : Int) :: ([] : List Int)))) :: (((0 : Int) :: ((1 : Int) :: ((1 : Int) :: ([] : List Int)))) :: (((1 : Int) :: ((0 : Int) :: ((0 : Int) :: ([] : List Int)))) :: (((1 : Int) :: ((1 : Int) :: ((1 : Int) :: ([] : List Int)))) :: ([] : List (List Int)))))), ()))) ∧
  (Go.Abs.King.v25.p ((2 : Int), ((((0 : Int) :: ((0 : Int) :: ([] : List Int))) :: (((1 : Int) :: ((1 : Int) :: ([] : List Int))) :: (((0 : Int) :: ((0 : Int) :: ([] : List Int))) :: ([] : List (List Int))))), ()))) ∧
  (Go.Abs.King.v27.p ((3 : Int), ((((0 : Int) :: ((0 : Int) :: ((1 : Int) :: ([] : List Int)))) :: (((0 : Int) :: ((1 : Int) :: ((1 : Int) :: ([] : List Int)))) :: (((1 : Int) :: ((0 : Int) :: ((0 : Int) :: ([] : List Int)))) :: (((1 : Int) :: ((1 : Int) :: ((1 : Int) :: ([] : List Int)))) :: ([] : List (List Int)))))), ()))) ∧
  (Go.Abs.King.v47.p (((-(1 : Int) : Int) :: ((1 : Int) :: ((-(1 : Int) : Int) :: ([] : List Int)))), ())) ∧
  (Go.Abs.King.v20.p ((3 : Int), ((((0 : Int) :: ((0 : Int) :: ((1 : Int) :: ([] : List Int)))) :: (((0 : Int) :: ((1 : Int) :: ((1 : Int) :: ([] : List Int)))) :: (((1 : Int) :: ((0 : Int) :: ((0 : Int) :: ([] : List Int)))) :: (((1 : Int) :: ((1 : Int) :: ((1 : Int) :: ([] : List Int)))) :: ([] : List (List Int)))))), (((-(1 : Int) : Int) :: ((1 : Int) :: ((-(1 : Int) : Int) :: ([] : List Int)))), ())))) ∧
  (Go.Abs.King.v47.p (((-(1 : Int) : Int) :: ((-(1 : Int) : Int) :: ([] : List Int))), ())) ∧
  (Go.Abs.King.v20.p ((3 : Int), ((((0 : Int) :: ((0 : Int) :: ((1 : Int) :: ([] : List Int)))) :: (((0 : Int) :: ((1 : Int) :: ((1 : Int) :: ([] : List Int)))) :: (((1 : Int) :: ((0 : Int) :: ((0 : Int) :: ([] : List Int)))) :: (((1 : Int) :: ((1 : Int) :: ((1 : Int) :: ([] : List Int)))) :: ([] : List (List Int)))))), (((-(1 : Int) : Int) :: ((-(1 : Int) : Int) :: ([] : List Int))), ())))) ∧
  (Go.Abs.King.v47.p (((5 : Int) :: ((-(1 : Int) : Int) :: ((-(1 : Int) : Int) :: ([] : List Int)))), ())) ∧
  (Go.Abs.King.v20.p ((3 : Int), ((((0 : Int) :: ((0 : Int) :: ((1 : Int) :: ([] : List Int)))) :: (((0 : Int) :: ((1 : Int) :: ((1 : Int) :: ([] : List Int)))) :: (((1 : Int) :: ((0 : Int) :: ((0 : Int) :: ([] : List Int)))) :: (((1 : Int) :: ((1 : Int) :: ((1 : Int) :: ([] : List Int)))) :: ([] : List (List Int)))))), (((5 : Int) :: ((-(1 : Int) : Int) :: ((-(1 : Int) : Int) :: ([] : List Int)))), ())))) ∧
  (Go.Abs.King.v47.p (((-(1 : Int) : Int) :: ((-(1 : Int) : Int) :: ((-(1 : Int) : Int) :: ([] : List Int)))), ())) ∧
  (Go.Abs.King.v30.p ((3 : Int), ((((0 : Int) :: ((0 : Int) :: ((1 : Int) :: ([] : List Int)))) :: (((0 : Int) :: ((1 : Int) :: ((1 : Int) :: ([] : List Int)))) :: (((1 : Int) :: ((0 : Int) :: ((0 : Int) :: ([] : List Int)))) :: (((1 : Int) :: ((1 : Int) :: ((1 : Int) :: ([] : List Int)))) :: ([] : List (List Int)))))), (((-(1 : Int) : Int) :: ((-(1 : Int) : Int) :: ((-(1 : Int) : Int) :: ([] : List Int)))), ())))) ∧
  (Go.Abs.King.v47.p (((-(1 : Int) : Int) :: ((-(1 : Int) : Int) :: ([] : List Int))), ())) ∧
  (Go.Abs.King.v30.p ((2 : Int), ((((0 : Int) :: ((0 : Int) :: ([] : List Int))) :: (((1 : Int) :: ((1 : Int) :: ([] : List Int))) :: (((0 : Int) :: ((0 : Int) :: ([] : List Int))) :: ([] : List (List Int))))), (((-(1 : Int) : Int) :: ((-(1 : Int) : Int) :: ([] : List Int))), ())))) ∧
  (Go.Abs.King.v47.p (((-(1 : Int) : Int) :: ((1 : Int) :: ((-(1 : Int) : Int) :: ([] : List Int)))), ())) ∧
  (Go.Abs.King.v32.p ((3 : Int), ((((0 : Int) :: ((0 : Int) :: ((1 : Int) :: ([] : List Int)))) :: (((0 : Int) :: ((1 : Int) :: ((1 : Int) :: ([] : List Int)))) :: (((1 : Int) :: ((0 : Int) :: ((0 : Int) :: ([] : List Int)))) :: (((1 : Int) :: ((1 : Int) :: ((1 : Int) :: ([] : List Int)))) :: ([] : List (List Int)))))), (((-(1 : Int) : Int) :: ((1 : Int) :: ((-(1 : Int) : Int) :: ([] : List Int)))), ())))) ∧
  (Go.Abs.King.v47.p (((1 : Int) :: ((1 : Int) :: ((-(1 : Int) : Int) :: ([] : List Int)))), ())) ∧
  (Go.Abs.King.v32.p ((3 : Int), ((((0 : Int) :: ((0 : Int) :: ((1 : Int) :: ([] : List Int)))) :: (((0 : Int) :: ((1 : Int) :: ((1 : Int) :: ([] : List Int)))) :: (((1 : Int) :: ((0 : Int) :: ((0 : Int) :: ([] : List Int)))) :: (((1 : Int) :: ((1 : Int) :: ((1 : Int) :: ([] : List Int)))) :: ([] : List (List Int)))))), (((1 : Int) :: ((1 : Int) :: ((-(1 : Int) : Int) :: ([] : List Int)))), ())))) ∧
  (Go.Abs.King.v47.p (((-(1 : Int) : Int) :: ((-(1 : Int) : Int) :: ([] : List Int))), ())) ∧
  (Go.Abs.King.v32.p ((2 : Int), ((((0 : Int) :: ((0 : Int) :: ([] : List Int))) :: (((1 : Int) :: ((1 : Int) :: ([] : List Int))) :: (((0 : Int) :: ((0 : Int) :: ([] : List Int))) :: ([] : List (List Int))))), (((-(1 : Int) : Int) :: ((-(1 : Int) : Int) :: ([] : List Int))), ())))) ∧
  (Go.Abs.King.v53.p ((0 : Int), ())) ∧
  (Go.Abs.King.v35.p ((3 : Int), ((((0 : Int) :: ((0 : Int) :: ((1 : Int) :: ([] : List Int)))) :: (((0 : Int) :: ((1 : Int) :: ((1 : Int) :: ([] : List Int)))) :: (((1 : Int) :: ((0 : Int) :: ((0 : Int) :: ([] : List Int)))) :: (((1 : Int) :: ((1 : Int) :: ((1 : Int) :: ([] : List Int)))) :: ([] : List (List Int)))))), ((((0 : Int), ((1 : Int) :: ((2 : Int) :: ((-(1 : Int) : Int) :: ((-(1 : Int) : Int) :: ((-(1 : Int) : Int) :: ([] : List Int))))))) :: (((1 : Int), ((-(2 : Int) : Int) :: ((-(3 : Int) : Int) :: ((-(1 : Int) : Int) :: ((-(1 : Int) : Int) :: ((-(1 : Int) : Int) :: ([] : List Int))))))) :: (((1 : Int), ((-(4 : Int) : Int) :: ((-(5 : Int) : Int) :: ((-(1 : Int) : Int) :: ((-(1 : Int) : Int) :: ((-(1 : Int) : Int) :: ([] : List Int))))))) :: ([] : List (Int × (List Int)))))), ())))) ∧
  (Go.Abs.King.v53.p ((0 : Int), ())) ∧
  (((0 : Int) ≤ (2 : Int)) ∧ ((2 : Int) ≤ (((List.length (((0 : Int), ((1 : Int) :: ((2 : Int) :: ((-(1 : Int) : Int) :: ((-(1 : Int) : Int) :: ((-(1 : Int) : Int) :: ([] : List Int))))))) :: (((1 : Int), ((-(2 : Int) : Int) :: ((-(3 : Int) : Int) :: ((-(1 : Int) : Int) :: ((-(1 : Int) : Int) :: ((-(1 : Int) : Int) :: ([] : List Int))))))) :: (((1 : Int), ((-(4 : Int) : Int) :: ((-(5 : Int) : Int) :: ((-(1 : Int) : Int) :: ((-(1 : Int) : Int) :: ((-(1 : Int) : Int) :: ([] : List Int))))))) :: ([] : List (Int × (List Int))))))) : Nat) : Int))) ∧
  (Go.Abs.King.v35.p ((3 : Int), ((((0 : Int) :: ((0 : Int) :: ((1 : Int) :: ([] : List Int)))) :: (((0 : Int) :: ((1 : Int) :: ((1 : Int) :: ([] : List Int)))) :: (((1 : Int) :: ((0 : Int) :: ((0 : Int) :: ([] : List Int)))) :: (((1 : Int) :: ((1 : Int) :: ((1 : Int) :: ([] : List Int)))) :: ([] : List (List Int)))))), ((List.take (Int.toNat (2 : Int)) (((0 : Int), ((1 : Int) :: ((2 : Int) :: ((-(1 : Int) : Int) :: ((-(1 : Int) : Int) :: ((-(1 : Int) : Int) :: ([] : List Int))))))) :: (((1 : Int), ((-(2 : Int) : Int) :: ((-(3 : Int) : Int) :: ((-(1 : Int) : Int) :: ((-(1 : Int) : Int) :: ((-(1 : Int) : Int) :: ([] : List Int))))))) :: (((1 : Int), ((-(4 : Int) : Int) :: ((-(5 : Int) : Int) :: ((-(1 : Int) : Int) :: ((-(1 : Int) : Int) :: ((-(1 : Int) : Int) :: ([] : List Int))))))) :: ([] : List (Int × (List Int))))))), ())))) ∧
  (Go.Abs.King.v53.p ((2 : Int), ())) ∧
  (Go.Abs.King.v35.p ((3 : Int), ((((0 : Int) :: ((0 : Int) :: ((1 : Int) :: ([] : List Int)))) :: (((0 : Int) :: ((1 : Int) :: ((1 : Int) :: ([] : List Int)))) :: (((1 : Int) :: ((0 : Int) :: ((0 : Int) :: ([] : List Int)))) :: (((1 : Int) :: ((1 : Int) :: ((1 : Int) :: ([] : List Int)))) :: ([] : List (List Int)))))), ((((2 : Int), ((1 : Int) :: ((2 : Int) :: ((-(1 : Int) : Int) :: ((-(1 : Int) : Int) :: ((-(1 : Int) : Int) :: ([] : List Int))))))) :: (((1 : Int), ((-(2 : Int) : Int) :: ((-(3 : Int) : Int) :: ((-(1 : Int) : Int) :: ((-(1 : Int) : Int) :: ((-(1 : Int) : Int) :: ([] : List Int))))))) :: (((1 : Int), ((-(4 : Int) : Int) :: ((-(5 : Int) : Int) :: ((-(1 : Int) : Int) :: ((-(1 : Int) : Int) :: ((-(1 : Int) : Int) :: ([] : List Int))))))) :: ([] : List (Int × (List Int)))))), ())))) ∧
  (Go.Abs.King.v35.p ((3 : Int), ((((0 : Int) :: ((0 : Int) :: ((1 : Int) :: ([] : List Int)))) :: (((0 : Int) :: ((1 : Int) :: ((1 : Int) :: ([] : List Int)))) :: (((1 : Int) :: ((0 : Int) :: ((0 : Int) :: ([] : List Int)))) :: (((1 : Int) :: ((1 : Int) :: ((1 : Int) :: ([] : List Int)))) :: ([] : List (List Int)))))), (([] : List (Int × (List Int))), ())))) ∧
  (Go.Abs.King.v37.p ((3 : Int), ((((0 : Int) :: ((0 : Int) :: ((1 : Int) :: ([] : List Int)))) :: (((0 : Int) :: ((1 : Int) :: ((1 : Int) :: ([] : List Int)))) :: (((1 : Int) :: ((0 : Int) :: ((0 : Int) :: ([] : List Int)))) :: (((1 : Int) :: ((1 : Int) :: ((1 : Int) :: ([] : List Int)))) :: ([] : List (List Int)))))), ()))) ∧
  (Go.Abs.King.v37.p ((2 : Int), ((((0 : Int) :: ((0 : Int) :: ([] : List Int))) :: (((1 : Int) :: ((1 : Int) :: ([] : List Int))) :: (((0 : Int) :: ((0 : Int) :: ([] : List Int))) :: ([] : List (List Int))))), ()))) ∧
  (Go.Abs.King.v36.p ((3 : Int), ((((0 : Int) :: ((0 : Int) :: ((1 : Int) :: ([] : List Int)))) :: (((0 : Int) :: ((1 : Int) :: ((1 : Int) :: ([] : List Int)))) :: (((1 : Int) :: ((0 : Int) :: ((0 : Int) :: ([] : List Int)))) :: (((1 : Int) :: ((1 : Int) :: ((1 : Int) :: ([] : List Int)))) :: ([] : List (List Int)))))), ((Go.Abs.King.madeT (3 : Int) (((0 : Int) :: ((0 : Int) :: ((1 : Int) :: ([] : List Int)))) :: (((0 : Int) :: ((1 : Int) :: ((1 : Int) :: ([] : List Int)))) :: (((1 : Int) :: ((0 : Int) :: ((0 : Int) :: ([] : List Int)))) :: (((1 : Int) :: ((1 : Int) :: ((1 : Int) :: ([] : List Int)))) :: ([] : List (List Int))))))), ())))) ∧
  (Go.Abs.King.v47.p (((0 : Int) :: ((1 : Int) :: ([] : List Int))), ())) ∧
  (Go.Abs.King.v54.p ((((0 : Int) :: ((1 : Int) :: ([] : List Int))) :: ([] : List (List Int))), ())) ∧
  (Go.Abs.King.v29.p ((Go.Abs.King.fewL (3 : Int) (((0 : Int) :: ((0 : Int) :: ((1 : Int) :: ([] : List Int)))) :: (((0 : Int) :: ((1 : Int) :: ((1 : Int) :: ([] : List Int)))) :: (((1 : Int) :: ((0 : Int) :: ((0 : Int) :: ([] : List Int)))) :: (((1 : Int) :: ((1 : Int) :: ((1 : Int) :: ([] : List Int)))) :: ([] : List (List Int))))))), ((((0 : Int) :: ((1 : Int) :: ([] : List Int))) :: ([] : List (List Int))), ()))) ∧
  (Go.Abs.King.v47.p (((0 : Int) :: ((1 : Int) :: ([] : List Int))), ())) ∧
  (Go.Abs.King.v24.p ((Go.Abs.King.neededL (3 : Int) (((0 : Int) :: ((0 : Int) :: ((1 : Int) :: ([] : List Int)))) :: (((0 : Int) :: ((1 : Int) :: ((1 : Int) :: ([] : List Int)))) :: (((1 : Int) :: ((0 : Int) :: ((0 : Int) :: ([] : List Int)))) :: (((1 : Int) :: ((1 : Int) :: ((1 : Int) :: ([] : List Int)))) :: ([] : List (List Int))))))), (((0 : Int) :: ((1 : Int) :: ([] : List Int))), ()))) ∧
  (Go.Abs.King.v47.p (((1 : Int) :: ((3 : Int) :: ([] : List Int))), ())) ∧
  (Go.Abs.King.v24.p ((Go.Abs.King.seenL (3 : Int) (((0 : Int) :: ((0 : Int) :: ((1 : Int) :: ([] : List Int)))) :: (((0 : Int) :: ((1 : Int) :: ((1 : Int) :: ([] : List Int)))) :: (((1 : Int) :: ((0 : Int) :: ((0 : Int) :: ([] : List Int)))) :: (((1 : Int) :: ((1 : Int) :: ((1 : Int) :: ([] : List Int)))) :: ([] : List (List Int)))))) ((-(1 : Int) : Int) :: ((1 : Int) :: ((-(1 : Int) : Int) :: ([] : List Int))))), (((1 : Int) :: ((3 : Int) :: ([] : List Int))), ()))) ∧
  (k (Go.Abs.AVal.bool ((Go.Abs.King.treeN2 (3 : Int) (((0 : Int) :: ((0 : Int) :: ((1 : Int) :: ([] : List Int)))) :: (((0 : Int) :: ((1 : Int) :: ((1 : Int) :: ([] : List Int)))) :: (((1 : Int) :: ((0 : Int) :: ((0 : Int) :: ([] : List Int)))) :: (((1 : Int) :: ((1 : Int) :: ((1 : Int) :: ([] : List Int)))) :: ([] : List (List Int)))))) (Go.Abs.King.madeT (3 : Int) (((0 : Int) :: ((0 : Int) :: ((1 : Int) :: ([] : List Int)))) :: (((0 : Int) :: ((1 : Int) :: ((1 : Int) :: ([] : List Int)))) :: (((1 : Int) :: ((0 : Int) :: ((0 : Int) :: ([] : List Int)))) :: (((1 : Int) :: ((1 : Int) :: ((1 : Int) :: ([] : List Int)))) :: ([] : List (List Int)))))))) == (2 : Int))) [])
theorem eq17  (k : AVal → List Cont → Prop) : awpF (envOf [(50, mkC [v50]), (51, mkC [v51]), (47, mkC [v47]), (54, mkC [v54]), (53, mkC [v53]), (18, mkC [v18]), (25, mkC [v25]), (27, mkC [v27]), (20, mkC [v20]), (30, mkC [v30]), (32, mkC [v32]), (35, mkC [v35]), (37, mkC [v37]), (36, mkC [v36]), (29, mkC [v29]), (24, mkC [v24])]) Try.prog kt 17 false Try.f17 (v17.S.enc Unit ()).1 [] k = vc17  k := by kernel_rfl
theorem tx17 : (Try.f17.body.map Code.textsOk).getD true = true := by kernel_rfl

def vc40 (m : Int) (pots : List (List Int)) (k : AVal → List Cont → Prop) : Prop :=
  (Go.Abs.King.v15.p (m, (pots, ()))) ∧
  br (((Bool.not (Go.Abs.King.great pots)) == Bool.true))
   ((Go.Abs.King.v23.p (m, (pots, ()))) ∧
   (k (Go.Abs.AVal.bool ((Go.Abs.King.checkShelf m pots) == (0 : Int))) []))
   ((k (Go.Abs.AVal.bool Bool.false) []))
theorem eq40 (m : Int) (pots : List (List Int)) (k : AVal → List Cont → Prop) : awpF (envOf [(15, mkC [v15]), (23, mkC [v23])]) Try.prog kt 40 false Try.f40 (v40.S.enc Unit (m, pots, ())).1 [] k = vc40 m pots k := by kernel_rfl
theorem tx40 : (Try.f40.body.map Code.textsOk).getD true = true := by kernel_rfl

def vc42 (m : Int) (pots : List (List Int)) (k : AVal → List Cont → Prop) : Prop :=
  (Go.Abs.King.v25.p (m, (pots, ()))) ∧
  br (((Go.Abs.King.fewE m pots) != (0 : Int)))
   (br ((((Go.Abs.King.fewE m pots) == (27 : Int)) == Bool.true))
    ((k (Go.Abs.AVal.tup ((Go.Abs.AVal.reg (0 : Nat) Bool.false) :: ((Go.Abs.AVal.bool Bool.false) :: ((Go.Abs.AVal.bool ((((List.length (Go.Abs.King.fewL m pots)) : Nat) : Int) == (0 : Int))) :: [])))) ((Go.Abs.Cont.sl (Go.Abs.Ty.slice (Go.Abs.Ty.int Go.IntKind.i64)) ([] : List (List Int))) :: [])))
    ((k (Go.Abs.AVal.tup ((Go.Abs.AVal.reg (0 : Nat) Bool.false) :: ((Go.Abs.AVal.bool Bool.false) :: ((Go.Abs.AVal.bool Bool.false) :: [])))) ((Go.Abs.Cont.sl (Go.Abs.Ty.slice (Go.Abs.Ty.int Go.IntKind.i64)) ([] : List (List Int))) :: []))))
   (br ((((((List.length (Go.Abs.King.fewL m pots)) : Nat) : Int) == (0 : Int)) == Bool.false))
    (br ((decide ((((List.length (Go.Abs.King.fewL m pots)) : Nat) : Int) > (64 : Int))))
     ((k (Go.Abs.AVal.tup ((Go.Abs.AVal.reg (0 : Nat) Bool.false) :: ((Go.Abs.AVal.bool Bool.false) :: ((Go.Abs.AVal.bool Bool.false) :: [])))) ((Go.Abs.Cont.sl (Go.Abs.Ty.slice (Go.Abs.Ty.int Go.IntKind.i64)) ([] : List (List Int))) :: [])))
     (Go.Abs.Loop (σ := (Int × (Int × ((List (List Int)) × ((List (List Int)) × Unit))))) (fun K3 x3 =>
       br ((decide (x3.1 < (((List.length x3.2.2.2.1) : Nat) : Int))))
        ((((0 : Int) ≤ x3.1) ∧ ((Int.toNat x3.1) < (List.length x3.2.2.2.1))) ∧
        ∃ h5 : ((Int.toNat x3.1) < (List.length x3.2.2.2.1)),
        (Go.Abs.King.v43.p ((x3.2.2.2.1[(Int.toNat x3.1)]'h5), (x3.2.1, ()))) ∧
        br (((Bool.not (Go.Abs.King.isList (x3.2.2.2.1[(Int.toNat x3.1)]'h5) x3.2.1)) == Bool.false))
         ((((0 : Int) ≤ x3.1) ∧ ((Int.toNat x3.1) < (List.length x3.2.2.2.1))) ∧
         ∃ h6 : ((Int.toNat x3.1) < (List.length x3.2.2.2.1)),
         (((0 : Int) ≤ (0 : Int)) ∧ ((Int.toNat (0 : Int)) < (List.length x3.2.2.2.1))) ∧
         ∃ h7 : ((Int.toNat (0 : Int)) < (List.length x3.2.2.2.1)),
         br (((((List.length (x3.2.2.2.1[(Int.toNat x3.1)]'h6)) : Nat) : Int) != (((List.length (x3.2.2.2.1[(Int.toNat (0 : Int))]'h7)) : Nat) : Int)))
          ((k (Go.Abs.AVal.tup ((Go.Abs.AVal.reg (0 : Nat) Bool.false) :: ((Go.Abs.AVal.bool Bool.false) :: ((Go.Abs.AVal.bool Bool.false) :: [])))) ((Go.Abs.Cont.sl (Go.Abs.Ty.slice (Go.Abs.Ty.int Go.IntKind.i64)) ([] : List (List Int))) :: [])))
          ((((0 : Int) ≤ x3.1) ∧ ((Int.toNat x3.1) < (List.length x3.2.2.2.1))) ∧
          ∃ h8 : ((Int.toNat x3.1) < (List.length x3.2.2.2.1)),
          (Go.Abs.King.v18.p (x3.2.1, (x3.2.2.1, ((x3.2.2.2.1[(Int.toNat x3.1)]'h8), ())))) ∧
          br (((Go.Abs.King.hardN x3.2.1 x3.2.2.1 (x3.2.2.2.1[(Int.toNat x3.1)]'h8)) != (5 : Int)))
           ((k (Go.Abs.AVal.tup ((Go.Abs.AVal.reg (0 : Nat) Bool.false) :: ((Go.Abs.AVal.bool Bool.false) :: ((Go.Abs.AVal.bool Bool.false) :: [])))) ((Go.Abs.Cont.sl (Go.Abs.Ty.slice (Go.Abs.Ty.int Go.IntKind.i64)) ([] : List (List Int))) :: [])))
           ((Go.Abs.fitsK Go.IntKind.i64 (x3.1 + (1 : Int))) ∧
           (K3 ((x3.1 + (1 : Int)), (x3.2.1, (x3.2.2.1, (x3.2.2.2.1, ()))))))))
         ((k (Go.Abs.AVal.tup ((Go.Abs.AVal.reg (0 : Nat) Bool.false) :: ((Go.Abs.AVal.bool Bool.false) :: ((Go.Abs.AVal.bool Bool.false) :: [])))) ((Go.Abs.Cont.sl (Go.Abs.Ty.slice (Go.Abs.Ty.int Go.IntKind.i64)) ([] : List (List Int))) :: []))))
        ((k (Go.Abs.AVal.tup ((Go.Abs.AVal.reg (0 : Nat) Bool.false) :: ((Go.Abs.AVal.bool Bool.true) :: ((Go.Abs.AVal.bool Bool.true) :: [])))) ((Go.Abs.Cont.sl (Go.Abs.Ty.slice (Go.Abs.Ty.int Go.IntKind.i64)) x3.2.2.2.1) :: [])))) (((0 : Int), (m, (pots, ((Go.Abs.King.fewL m pots), ())))))))
    ((k (Go.Abs.AVal.tup ((Go.Abs.AVal.reg (0 : Nat) Bool.false) :: ((Go.Abs.AVal.bool Bool.false) :: ((Go.Abs.AVal.bool Bool.false) :: [])))) ((Go.Abs.Cont.sl (Go.Abs.Ty.slice (Go.Abs.Ty.int Go.IntKind.i64)) ([] : List (List Int))) :: []))))
theorem eq42 (m : Int) (pots : List (List Int)) (k : AVal → List Cont → Prop) : awpF (envOf [(25, mkC [v25]), (43, mkC [v43]), (18, mkC [v18])]) Try.prog kt 42 false Try.f42 (v42.S.enc Unit (m, pots, ())).1 [] k = vc42 m pots k := by kernel_rfl
theorem tx42 : (Try.f42.body.map Code.textsOk).getD true = true := by kernel_rfl

def vc3 (m : Int) (pots : List (List Int)) (marks seen : List Int) (k : AVal → List Cont → Prop) : Prop :=
  (Go.Abs.King.v15.p (m, (pots, ()))) ∧
  br (((Go.Abs.King.great pots) == Bool.false))
   ((Go.Abs.King.v16.p (marks, ())) ∧
   br (((Go.Abs.King.longL marks) == Bool.false))
    ((Go.Abs.King.v16.p (seen, ())) ∧
    br ((Go.Abs.King.longL seen))
     ((Go.Abs.King.v17.p ()) ∧
     (k (Go.Abs.AVal.bool Bool.true) []))
     ((Go.Abs.King.v18.p (m, (pots, (marks, ())))) ∧
     (Go.Abs.King.v19.p (m, (pots, (marks, ())))) ∧
     (Go.Abs.King.v20.p (m, (pots, (seen, ())))) ∧
     (Go.Abs.King.v21.p (m, (pots, (seen, ())))) ∧
     (Go.Abs.King.v22.p (m, (pots, ()))) ∧
     (Go.Abs.King.v23.p (m, (pots, ()))) ∧
     br ((((Go.Abs.King.checkShelf m pots) == (Go.Abs.King.checkShelf m pots)) == Bool.true))
      (br ((((Go.Abs.King.hardX m pots marks) == (Go.Abs.King.hardX m pots marks)) == Bool.true))
       (br ((((Go.Abs.King.hardY m pots marks) == (Go.Abs.King.hardY m pots marks)) == Bool.true))
        (br ((((Go.Abs.King.hardN m pots marks) == (Go.Abs.King.hardN m pots marks)) == Bool.true))
         ((Go.Abs.King.v24.p ((Go.Abs.King.seenL m pots seen), ((Go.Abs.King.seenL m pots seen), ()))) ∧
         br (((Go.Abs.King.eqL (Go.Abs.King.seenL m pots seen) (Go.Abs.King.seenL m pots seen)) == Bool.true))
          (br ((((Go.Abs.King.seenErr m pots seen) == (Go.Abs.King.seenErr m pots seen)) == Bool.true))
           ((Go.Abs.King.v17.p ()) ∧
           (k (Go.Abs.AVal.bool Bool.true) []))
           ((k (Go.Abs.AVal.bool Bool.false) [])))
          ((k (Go.Abs.AVal.bool Bool.false) [])))
         ((k (Go.Abs.AVal.bool Bool.false) [])))
        ((k (Go.Abs.AVal.bool Bool.false) [])))
       ((k (Go.Abs.AVal.bool Bool.false) [])))
      ((k (Go.Abs.AVal.bool Bool.false) []))))
    ((Go.Abs.King.v17.p ()) ∧
    (k (Go.Abs.AVal.bool Bool.true) [])))
   ((Go.Abs.King.v17.p ()) ∧
   (k (Go.Abs.AVal.bool Bool.true) []))
theorem eq3 (m : Int) (pots : List (List Int)) (marks seen : List Int) (k : AVal → List Cont → Prop) : awpF (envOf [(15, mkC [v15]), (16, mkC [v16]), (17, mkC [v17]), (18, mkC [v18]), (19, mkC [v19]), (20, mkC [v20]), (21, mkC [v21]), (22, mkC [v22]), (23, mkC [v23]), (24, mkC [v24])]) Try.prog kt 3 false Try.f3 (v3.S.enc Unit (m, pots, marks, seen, ())).1 [] k = vc3 m pots marks seen k := by kernel_rfl
theorem tx3 : (Try.f3.body.map Code.textsOk).getD true = true := by kernel_rfl

def vc4 (m : Int) (pots : List (List Int)) (k : AVal → List Cont → Prop) : Prop :=
  (Go.Abs.King.v15.p (m, (pots, ()))) ∧
  br ((Go.Abs.King.great pots))
   ((Go.Abs.King.v17.p ()) ∧
   (k (Go.Abs.AVal.bool Bool.true) []))
   ((Go.Abs.King.v25.p (m, (pots, ()))) ∧
   (Go.Abs.King.v26.p (m, (pots, ()))) ∧
   (Go.Abs.King.v27.p (m, (pots, ()))) ∧
   (Go.Abs.King.v28.p (m, (pots, ()))) ∧
   (Go.Abs.King.v29.p ((Go.Abs.King.fewL m pots), ((Go.Abs.King.fewL m pots), ()))) ∧
   br (((Go.Abs.King.eqLL (Go.Abs.King.fewL m pots) (Go.Abs.King.fewL m pots)) == Bool.true))
    (br ((((Go.Abs.King.fewE m pots) == (Go.Abs.King.fewE m pots)) == Bool.true))
     ((Go.Abs.King.v24.p ((Go.Abs.King.neededL m pots), ((Go.Abs.King.neededL m pots), ()))) ∧
     br (((Go.Abs.King.eqL (Go.Abs.King.neededL m pots) (Go.Abs.King.neededL m pots)) == Bool.true))
      (br ((((Go.Abs.King.checkShelf m pots) == (Go.Abs.King.checkShelf m pots)) == Bool.true))
       ((Go.Abs.King.v17.p ()) ∧
       (k (Go.Abs.AVal.bool Bool.true) []))
       ((k (Go.Abs.AVal.bool Bool.false) [])))
      ((k (Go.Abs.AVal.bool Bool.false) [])))
     ((k (Go.Abs.AVal.bool Bool.false) [])))
    ((k (Go.Abs.AVal.bool Bool.false) [])))
theorem eq4 (m : Int) (pots : List (List Int)) (k : AVal → List Cont → Prop) : awpF (envOf [(15, mkC [v15]), (17, mkC [v17]), (25, mkC [v25]), (26, mkC [v26]), (27, mkC [v27]), (28, mkC [v28]), (24, mkC [v24]), (29, mkC [v29])]) Try.prog kt 4 false Try.f4 (v4.S.enc Unit (m, pots, ())).1 [] k = vc4 m pots k := by kernel_rfl
theorem tx4 : (Try.f4.body.map Code.textsOk).getD true = true := by kernel_rfl

def vc5 (m : Int) (pots : List (List Int)) (seen : List Int) (k : AVal → List Cont → Prop) : Prop :=
  (Go.Abs.King.v15.p (m, (pots, ()))) ∧
  br (((Go.Abs.King.great pots) == Bool.false))
   ((Go.Abs.King.v16.p (seen, ())) ∧
   br ((Go.Abs.King.longL seen))
    ((Go.Abs.King.v17.p ()) ∧
    (k (Go.Abs.AVal.bool Bool.true) []))
    ((Go.Abs.King.v30.p (m, (pots, (seen, ())))) ∧
    (Go.Abs.King.v31.p (m, (pots, (seen, ())))) ∧
    (Go.Abs.King.v32.p (m, (pots, (seen, ())))) ∧
    (Go.Abs.King.v33.p (m, (pots, (seen, ())))) ∧
    br ((((Go.Abs.King.looksE m pots seen) == (Go.Abs.King.looksE m pots seen)) == Bool.true))
     (br ((((Go.Abs.King.seenErr m pots seen) == (Go.Abs.King.seenErr m pots seen)) == Bool.true))
      (br ((((Go.Abs.King.nextN m pots seen) == (Go.Abs.King.nextN m pots seen)) == Bool.true))
       (br ((((Go.Abs.King.nextE m pots seen) == (Go.Abs.King.nextE m pots seen)) == Bool.true))
        ((Go.Abs.King.v17.p ()) ∧
        (k (Go.Abs.AVal.bool Bool.true) []))
        ((k (Go.Abs.AVal.bool Bool.false) [])))
       ((k (Go.Abs.AVal.bool Bool.false) [])))
      ((k (Go.Abs.AVal.bool Bool.false) [])))
     ((k (Go.Abs.AVal.bool Bool.false) []))))
   ((Go.Abs.King.v17.p ()) ∧
   (k (Go.Abs.AVal.bool Bool.true) []))
theorem eq5 (m : Int) (pots : List (List Int)) (seen : List Int) (k : AVal → List Cont → Prop) : awpF (envOf [(15, mkC [v15]), (16, mkC [v16]), (17, mkC [v17]), (30, mkC [v30]), (31, mkC [v31]), (32, mkC [v32]), (33, mkC [v33])]) Try.prog kt 5 false Try.f5 (v5.S.enc Unit (m, pots, seen, ())).1 [] k = vc5 m pots seen k := by kernel_rfl
theorem tx5 : (Try.f5.body.map Code.textsOk).getD true = true := by kernel_rfl

def vc6 (m : Int) (pots : List (List Int)) (t : List (Int × List Int)) (k : AVal → List Cont → Prop) : Prop :=
  (Go.Abs.King.v15.p (m, (pots, ()))) ∧
  br (((Go.Abs.King.great pots) == Bool.false))
   ((Go.Abs.King.v34.p (t, ())) ∧
   br ((Go.Abs.King.wide t))
    ((Go.Abs.King.v17.p ()) ∧
    (k (Go.Abs.AVal.bool Bool.true) []))
    ((Go.Abs.King.v35.p (m, (pots, (t, ())))) ∧
    (Go.Abs.King.v36.p (m, (pots, (t, ())))) ∧
    (Go.Abs.King.v37.p (m, (pots, ()))) ∧
    (Go.Abs.King.v38.p (m, (pots, ()))) ∧
    br ((((Go.Abs.King.treeN m pots t) != (Go.Abs.King.treeN2 m pots t)) == Bool.false))
     (br ((((Go.Abs.King.treeE m pots t) != (Go.Abs.King.treeE m pots t)) == Bool.false))
      (br ((((Go.Abs.King.madeE m pots) != (Go.Abs.King.treeErrE m pots)) == Bool.false))
       ((Go.Abs.King.v34.p ((Go.Abs.King.madeT m pots), ())) ∧
       br ((Go.Abs.King.wide (Go.Abs.King.madeT m pots)))
        ((k (Go.Abs.AVal.bool Bool.false) []))
        (br (((Go.Abs.King.treeErrE m pots) != (0 : Int)))
         (br ((((((List.length (Go.Abs.King.madeT m pots)) : Nat) : Int) == (0 : Int)) == Bool.true))
          ((Go.Abs.King.v17.p ()) ∧
          (k (Go.Abs.AVal.bool Bool.true) []))
          ((k (Go.Abs.AVal.bool Bool.false) [])))
         ((Go.Abs.King.v36.p (m, (pots, ((Go.Abs.King.madeT m pots), ())))) ∧
         br ((((Go.Abs.King.treeE m pots (Go.Abs.King.madeT m pots)) == (0 : Int)) == Bool.true))
          ((Go.Abs.King.v39.p (m, (pots, ()))) ∧
          ((0 : Int) ≤ (((List.length pots) : Nat) : Int)) ∧
          (Go.Abs.fitsK Go.IntKind.i64 ((Go.Abs.shlA Go.IntKind.i64 (1 : Int) (((List.length pots) : Nat) : Int)) - (1 : Int))) ∧
          (((0 : Int) ≤ ((Go.Abs.shlA Go.IntKind.i64 (1 : Int) (((List.length pots) : Nat) : Int)) - (1 : Int))) ∧ ((Int.toNat ((Go.Abs.shlA Go.IntKind.i64 (1 : Int) (((List.length pots) : Nat) : Int)) - (1 : Int))) < (List.length (Go.Abs.King.looksAll m pots)))) ∧
          ∃ h4 : ((Int.toNat ((Go.Abs.shlA Go.IntKind.i64 (1 : Int) (((List.length pots) : Nat) : Int)) - (1 : Int))) < (List.length (Go.Abs.King.looksAll m pots))),
          br ((((Go.Abs.King.treeN2 m pots (Go.Abs.King.madeT m pots)) == ((Go.Abs.King.looksAll m pots)[(Int.toNat ((Go.Abs.shlA Go.IntKind.i64 (1 : Int) (((List.length pots) : Nat) : Int)) - (1 : Int)))]'h4)) == Bool.true))
           ((Go.Abs.King.v17.p ()) ∧
           (k (Go.Abs.AVal.bool Bool.true) []))
           ((k (Go.Abs.AVal.bool Bool.false) [])))
          ((k (Go.Abs.AVal.bool Bool.false) [])))))
       ((k (Go.Abs.AVal.bool Bool.false) [])))
      ((k (Go.Abs.AVal.bool Bool.false) [])))
     ((k (Go.Abs.AVal.bool Bool.false) []))))
   ((Go.Abs.King.v17.p ()) ∧
   (k (Go.Abs.AVal.bool Bool.true) []))
theorem eq6 (m : Int) (pots : List (List Int)) (t : List (Int × List Int)) (k : AVal → List Cont → Prop) : awpF (envOf [(15, mkC [v15]), (34, mkC [v34]), (17, mkC [v17]), (35, mkC [v35]), (36, mkC [v36]), (37, mkC [v37]), (38, mkC [v38]), (39, mkC [v39])]) Try.prog kt 6 false Try.f6 (v6.S.enc Unit (m, pots, t, ())).1 [] k = vc6 m pots t k := by kernel_rfl
theorem tx6 : (Try.f6.body.map Code.textsOk).getD true = true := by kernel_rfl

def vc26 (m : Int) (pots : List (List Int)) (k : AVal → List Cont → Prop) : Prop :=
  (Go.Abs.King.v23.p (m, (pots, ()))) ∧
  br (((Go.Abs.King.checkShelf m pots) != (0 : Int)))
   ((Go.Abs.King.v23.p (m, (pots, ()))) ∧
   (k (Go.Abs.AVal.tup ((Go.Abs.AVal.reg (0 : Nat) Bool.false) :: ((Go.Abs.AVal.int Go.IntKind.i64 (Go.Abs.King.checkShelf m pots)) :: []))) ((Go.Abs.Cont.sl (Go.Abs.Ty.slice (Go.Abs.Ty.int Go.IntKind.i64)) ([] : List (List Int))) :: [])))
   ((Go.Abs.fitsK Go.IntKind.i64 (m + (1 : Int))) ∧
   Go.Abs.Loop (σ := (Int × (Int × (Int × ((List (List Int)) × ((List (List Int)) × Unit)))))) (fun K3 x3 =>
     ((0 : Int) ≤ x3.2.2.1) ∧
     br ((decide (x3.2.1 < (Go.Abs.shlA Go.IntKind.i64 (1 : Int) x3.2.2.1))))
      ((Go.Abs.King.v41.p (x3.2.1, (x3.2.2.1, ()))) ∧
      (Go.Abs.King.v58.p (x3.2.2.1, (x3.2.2.2.1, ((Go.Abs.King.listed (Int.toNat x3.2.1) (Int.toNat x3.2.2.1)), ())))) ∧
      br (((Go.Abs.King.hardB x3.2.2.2.1 (Go.Abs.King.listed (Int.toNat x3.2.1) (Int.toNat x3.2.2.1))) == Bool.false))
       (br ((decide ((((List.length (Go.Abs.King.listed (Int.toNat x3.2.1) (Int.toNat x3.2.2.1))) : Nat) : Int) > x3.1)))
        ((Go.Abs.fitsK Go.IntKind.i64 (x3.2.1 + (1 : Int))) ∧
        (K3 (x3.1, ((x3.2.1 + (1 : Int)), (x3.2.2.1, (x3.2.2.2.1, (x3.2.2.2.2.1, ())))))))
        (br ((decide ((((List.length (Go.Abs.King.listed (Int.toNat x3.2.1) (Int.toNat x3.2.2.1))) : Nat) : Int) < x3.1)))
         ((((List.length ([] : List (List Int))) + (List.length ((Go.Abs.King.listed (Int.toNat x3.2.1) (Int.toNat x3.2.2.1)) :: ([] : List (List Int))))) ≤ Go.Abs.big) ∧
         (Go.Abs.fitsK Go.IntKind.i64 (x3.2.1 + (1 : Int))) ∧
         (K3 ((((List.length (Go.Abs.King.listed (Int.toNat x3.2.1) (Int.toNat x3.2.2.1))) : Nat) : Int), ((x3.2.1 + (1 : Int)), (x3.2.2.1, (x3.2.2.2.1, ((([] : List (List Int)) ++ ((Go.Abs.King.listed (Int.toNat x3.2.1) (Int.toNat x3.2.2.1)) :: ([] : List (List Int)))), ())))))))
         ((((List.length x3.2.2.2.2.1) + (List.length ((Go.Abs.King.listed (Int.toNat x3.2.1) (Int.toNat x3.2.2.1)) :: ([] : List (List Int))))) ≤ Go.Abs.big) ∧
         (Go.Abs.fitsK Go.IntKind.i64 (x3.2.1 + (1 : Int))) ∧
         (K3 (x3.1, ((x3.2.1 + (1 : Int)), (x3.2.2.1, (x3.2.2.2.1, ((x3.2.2.2.2.1 ++ ((Go.Abs.King.listed (Int.toNat x3.2.1) (Int.toNat x3.2.2.1)) :: ([] : List (List Int)))), ())))))))))
       ((Go.Abs.fitsK Go.IntKind.i64 (x3.2.1 + (1 : Int))) ∧
       (K3 (x3.1, ((x3.2.1 + (1 : Int)), (x3.2.2.1, (x3.2.2.2.1, (x3.2.2.2.2.1, ()))))))))
      (br ((decide (x3.1 > x3.2.2.1)))
       ((k (Go.Abs.AVal.tup ((Go.Abs.AVal.reg (0 : Nat) Bool.false) :: ((Go.Abs.AVal.int Go.IntKind.i64 (27 : Int)) :: []))) ((Go.Abs.Cont.sl (Go.Abs.Ty.slice (Go.Abs.Ty.int Go.IntKind.i64)) ([] : List (List Int))) :: [])))
       (Go.Abs.Loop (σ := (Int × ((List (List Int)) × Unit))) (fun K5 x5 =>
         br ((decide (x5.1 < (((List.length x5.2.1) : Nat) : Int))))
          (Go.Abs.Loop (σ := (Int × (Int × ((List (List Int)) × Unit)))) (fun K7 x7 =>
            br (((decide (x7.2.1 > (0 : Int))) == Bool.true))
             ((((0 : Int) ≤ x7.2.1) ∧ ((Int.toNat x7.2.1) < (List.length x7.2.2.1))) ∧
             ∃ h9 : ((Int.toNat x7.2.1) < (List.length x7.2.2.1)),
             (Go.Abs.fitsK Go.IntKind.i64 (x7.2.1 - (1 : Int))) ∧
             (((0 : Int) ≤ (x7.2.1 - (1 : Int))) ∧ ((Int.toNat (x7.2.1 - (1 : Int))) < (List.length x7.2.2.1))) ∧
             ∃ h10 : ((Int.toNat (x7.2.1 - (1 : Int))) < (List.length x7.2.2.1)),
             (Go.Abs.King.v67.p ((x7.2.2.1[(Int.toNat x7.2.1)]'h9), ((x7.2.2.1[(Int.toNat (x7.2.1 - (1 : Int)))]'h10), ()))) ∧
             br ((Go.Abs.King.beforeL (x7.2.2.1[(Int.toNat x7.2.1)]'h9) (x7.2.2.1[(Int.toNat (x7.2.1 - (1 : Int)))]'h10)))
              ((Go.Abs.fitsK Go.IntKind.i64 (x7.2.1 - (1 : Int))) ∧
              (Go.Abs.fitsK Go.IntKind.i64 (x7.2.1 - (1 : Int))) ∧
              (((0 : Int) ≤ (x7.2.1 - (1 : Int))) ∧ ((Int.toNat (x7.2.1 - (1 : Int))) < (List.length x7.2.2.1))) ∧
              ∃ h11 : ((Int.toNat (x7.2.1 - (1 : Int))) < (List.length x7.2.2.1)),
              (((0 : Int) ≤ x7.2.1) ∧ ((Int.toNat x7.2.1) < (List.length x7.2.2.1))) ∧
              ∃ h12 : ((Int.toNat x7.2.1) < (List.length x7.2.2.1)),
              (((0 : Int) ≤ x7.2.1) ∧ ((Int.toNat x7.2.1) < (List.length x7.2.2.1))) ∧
              ∃ h13 : ((Int.toNat x7.2.1) < (List.length x7.2.2.1)),
              (((0 : Int) ≤ (x7.2.1 - (1 : Int))) ∧ ((Int.toNat (x7.2.1 - (1 : Int))) < (List.length (List.set x7.2.2.1 (Int.toNat x7.2.1) (x7.2.2.1[(Int.toNat (x7.2.1 - (1 : Int)))]'h11))))) ∧
              ∃ h14 : ((Int.toNat (x7.2.1 - (1 : Int))) < (List.length (List.set x7.2.2.1 (Int.toNat x7.2.1) (x7.2.2.1[(Int.toNat (x7.2.1 - (1 : Int)))]'h11)))),
              (Go.Abs.fitsK Go.IntKind.i64 (x7.2.1 - (1 : Int))) ∧
              (K7 (x7.1, ((x7.2.1 - (1 : Int)), ((List.set (List.set x7.2.2.1 (Int.toNat x7.2.1) (x7.2.2.1[(Int.toNat (x7.2.1 - (1 : Int)))]'h11)) (Int.toNat (x7.2.1 - (1 : Int))) (x7.2.2.1[(Int.toNat x7.2.1)]'h12)), ())))))
              ((Go.Abs.fitsK Go.IntKind.i64 (x7.1 + (1 : Int))) ∧
              (K5 ((x7.1 + (1 : Int)), (x7.2.2.1, ())))))
             ((Go.Abs.fitsK Go.IntKind.i64 (x7.1 + (1 : Int))) ∧
             (K5 ((x7.1 + (1 : Int)), (x7.2.2.1, ()))))) ((x5.1, (x5.1, (x5.2.1, ())))))
          ((k (Go.Abs.AVal.tup ((Go.Abs.AVal.reg (0 : Nat) Bool.false) :: ((Go.Abs.AVal.int Go.IntKind.i64 (0 : Int)) :: []))) ((Go.Abs.Cont.sl (Go.Abs.Ty.slice (Go.Abs.Ty.int Go.IntKind.i64)) x5.2.1) :: [])))) (((1 : Int), (x3.2.2.2.2.1, ())))))) (((m + (1 : Int)), ((0 : Int), (m, (pots, (([] : List (List Int)), ())))))))
theorem eq26 (m : Int) (pots : List (List Int)) (k : AVal → List Cont → Prop) : awpF (envOf [(23, mkC [v23]), (41, mkC [v41]), (58, mkC [v58]), (67, mkC [v67])]) Try.prog kt 26 false Try.f26 (v26.S.enc Unit (m, pots, ())).1 [] k = vc26 m pots k := by kernel_rfl
theorem tx26 : (Try.f26.body.map Code.textsOk).getD true = true := by kernel_rfl

end Go.Abs.King
end

section
/- The king's functions keep their contracts: the examples; what the shortest lists are. -/
open Go.Proofs
set_option maxRecDepth 100000
set_option linter.unusedVariables false
namespace Go.Abs.King

theorem all_of {α : Type} {l : List α} {p : α → Prop} [DecidablePred p] (h : l.all (fun x => decide (p x)) = true) : ∀ x, x ∈ l → p x := fun x hx => of_decide_eq_true (List.all_eq_true.1 h x hx)
theorem allLL {c : Nat} {l : List (List Int)} (h : l.all (fun x => decide (x.length ≤ c)) = true) : ∀ x ∈ l, x.length ≤ c := fun x hx => of_decide_eq_true (List.all_eq_true.1 h x hx)
theorem k17 (hG : Good Try.prog (envOf [(50, mkC [v50]), (51, mkC [v51]), (47, mkC [v47]), (54, mkC [v54]), (53, mkC [v53]), (18, mkC [v18]), (25, mkC [v25]), (27, mkC [v27]), (20, mkC [v20]), (30, mkC [v30]), (32, mkC [v32]), (35, mkC [v35]), (37, mkC [v37]), (36, mkC [v36]), (29, mkC [v29]), (24, mkC [v24])])) : v17.Kept Try.prog 17 := by
  rintro ⟨⟩ hpre k hk
  refine aspec hmix hG Try.func17 tx17 (Eq.mpr (eq17 k) ?_)
  replace hk : k (.bool true) [] := hk
  unfold vc17
  have e : (treeN2 3 [[0, 0, 1], [0, 1, 1], [1, 0, 0], [1, 1, 1]] (madeT 3 [[0, 0, 1], [0, 1, 1], [1, 0, 0], [1, 1, 1]]) == 2) = true := by decide +kernel
  rw [e]
  simp only [Var.p, v50, v51, v47, v54, v53, v18, v25, v27, v20, v30, v32, v35, v37, v36, v29, v24, true_and]
  repeat' apply And.intro
  all_goals first
    | exact hk
    | exact allLL (by decide +kernel)
    | exact all_of (by decide +kernel)
    | decide +kernel

theorem k40 (hG : Good Try.prog (envOf [(15, mkC [v15]), (23, mkC [v23])])) : v40.Kept Try.prog 40 := by
  rintro ⟨m, pots, ⟨⟩⟩ hpre k hk
  change List (List Int) at pots
  change Int at m
  refine aspec hmix hG Try.func40 tx40 (Eq.mpr (eq40 m pots k) ?_)
  replace hk : k (.bool (fineB m pots)) [] := hk
  unfold vc40
  refine ⟨trivial, br_intro (fun h => ⟨?_, ?_⟩) (fun h => ?_)⟩
  · cases hg : great pots with
    | true => rw [hg] at h; cases h
    | false =>
      have : ¬ 14 < pots.length := by
        intro hh
        unfold great at hg
        rw [decide_eq_true hh] at hg
        cases hg
      show pots.length ≤ 14
      omega
  · cases hg : great pots with
    | true => rw [hg] at h; cases h
    | false =>
      have e : fineB m pots = (checkShelf m pots == 0) := by
        unfold fineB
        rw [hg]
        by_cases hc : checkShelf m pots = 0
        · rw [decide_eq_true hc, hc]; rfl
        · rw [decide_eq_false hc]
          have : (checkShelf m pots == 0) = false := beq_false_of_ne hc
          rw [this]; rfl
      rw [← e]; exact hk
  · cases hg : great pots with
    | true =>
      have e : fineB m pots = false := by unfold fineB; rw [hg]; rfl
      rw [e] at hk; exact hk
    | false => rw [hg] at h; cases h

/-! ### the shortest lists -/

theorem nextOf_snoc : ∀ (l : List Int) (j : Nat), nextOf (l ++ [(j : Int)]) = j + 1
  | [], j => by show ((j : Int) + 1).toNat = j + 1; omega
  | [x], j => by show ((j : Int) + 1).toNat = j + 1; omega
  | x :: y :: l, j => by
    have := nextOf_snoc (y :: l) j
    show nextOf ((y :: l) ++ [(j : Int)]) = j + 1
    exact this

/-- How many ways to choose some of others. -/
def cB : Nat → Nat → Nat
  | 0, _ => 1
  | _ + 1, 0 => 0
  | n + 1, r + 1 => cB (n + 1) r + cB n r
theorem cB_small : ∀ n, n ≤ 6 → ∀ r, r ≤ 6 → cB n r ≤ 20 := by decide
theorem flat_len {α : Type} (f : Nat → List α) (g : Nat → Nat) : ∀ (r a : Nat), (∀ j, a ≤ j → j < a + r → (f j).length ≤ g (a + r - 1 - j)) → ((List.range' a r).flatMap f).length ≤ ((List.range r).map g).sum
  | 0, a, _ => by simp
  | r + 1, a, h => by
    rw [List.range'_succ, List.flatMap_cons, List.length_append, List.range_succ, List.map_append, List.sum_append]
    have h1 := h a (by omega) (by omega)
    have h2 := flat_len f g r (a + 1) (fun j h3 h4 => by
      have := h j (by omega) (by omega)
      have e : a + (r + 1) - 1 - j = a + 1 + r - 1 - j := by omega
      rw [e] at this
      exact this)
    have e : a + (r + 1) - 1 - a = r := by omega
    rw [e] at h1
    simp only [List.map_cons, List.map_nil, List.sum_cons, List.sum_nil]
    omega
theorem cB_sum (n : Nat) : ∀ r, ((List.range r).map (fun i => cB n i)).sum = cB (n + 1) r
  | 0 => rfl
  | r + 1 => by
    rw [List.range_succ, List.map_append, List.sum_append, cB_sum n r]
    simp [cB]
theorem listsN_cB (pots : List (List Int)) (m : Nat) : ∀ (n : Nat) (l : List Int), (listsN pots m n l).length ≤ cB n (m - nextOf l)
  | 0, l => by
    unfold listsN cB
    split <;> simp
  | n + 1, l => by
    unfold listsN
    refine Nat.le_trans (flat_len _ (fun i => cB n i) _ _ (fun j h1 h2 => ?_)) (Nat.le_of_eq (cB_sum n _))
    have := listsN_cB pots m n (l ++ [(j : Int)])
    rw [nextOf_snoc] at this
    have e : nextOf l + (m - nextOf l) - 1 - j = m - (j + 1) := by omega
    rw [e]
    exact this
theorem listsN_spec {pots : List (List Int)} {m : Nat} : ∀ (n : Nat) (l x : List Int), isList l (m : Int) = true → x ∈ listsN pots m n l → isList x (m : Int) = true ∧ x.length = l.length + n ∧ hardB pots x = false
  | 0, l, x, hl, hx => by
    unfold listsN at hx
    split at hx
    · simp at hx
    · rename_i h
      simp only [List.mem_singleton] at hx
      subst hx
      exact ⟨hl, by simp, by cases hb : hardB pots x with
        | true => exact absurd hb h
        | false => rfl⟩
  | n + 1, l, x, hl, hx => by
    unfold listsN at hx
    obtain ⟨j, hj, hx⟩ := List.mem_flatMap.1 hx
    have hj := List.mem_range'_1.1 hj
    have hsn : isList (l ++ [(j : Int)]) (m : Int) = true := rises_snoc l 0 (m : Int) _ (by omega) hl (by omega) (by omega) (by omega)
    obtain ⟨a, b, c⟩ := listsN_spec n (l ++ [(j : Int)]) x hsn hx
    refine ⟨a, ?_, c⟩
    rw [List.length_append] at b
    simp only [List.length_singleton] at b
    omega

theorem isF_err {m : Int} {pots : List (List Int)} (h : checkShelf m pots = 0) : (fewE m pots = 27 ∧ fewL m pots = [] ∧ fewK m pots = none) ∨ ∃ n, n ≤ m.toNat ∧ fewE m pots = 0 ∧ fewK m pots = some n ∧ fewL m pots = listsN pots m.toNat n [] ∧ 0 < (fewL m pots).length := by
  unfold fewE fewL
  rw [if_neg (not_not_intro h), if_neg (not_not_intro h)]
  cases hk : fewK m pots with
  | none => exact Or.inl ⟨rfl, rfl, rfl⟩
  | some n =>
    refine Or.inr ⟨n, ?_, rfl, rfl, rfl, ?_⟩
    · have := List.mem_range.1 (List.mem_of_find?_eq_some hk); omega
    · unfold fewK at hk
      have h3 := List.find?_some hk
      exact of_decide_eq_true h3
theorem few_spec {m : Int} {pots : List (List Int)} {n : Nat} (h : checkShelf m pots = 0) (hn : fewK m pots = some n) : ∀ l ∈ fewL m pots, isList l m = true ∧ l.length = n ∧ hardB pots l = false := by
  intro l hl
  obtain ⟨f1, f2, f3, f4⟩ := fine_spec h
  obtain ⟨mm, rfl⟩ := Int.eq_ofNat_of_zero_le (show 0 ≤ m by omega)
  rcases isF_err h with ⟨_, _, h3⟩ | ⟨n', h1, h2, h3, h4, h5⟩
  · rw [hn] at h3; cases h3
  · rw [hn] at h3
    cases h3
    rw [h4] at hl
    have := listsN_spec n [] l rfl hl
    refine ⟨this.1, ?_, this.2.2⟩
    simpa using this.2.1

theorem k42 (hG : Good Try.prog (envOf [(25, mkC [v25]), (43, mkC [v43]), (18, mkC [v18])])) : v42.Kept Try.prog 42 := by
  rintro ⟨m, pots, ⟨⟩⟩ hpre k hk
  change List (List Int) at pots
  change Int at m
  refine aspec hmix hG Try.func42 tx42 (Eq.mpr (eq42 m pots k) ?_)
  replace hk : k (.tup [.reg 0 false, .bool (isF m pots), .bool true]) [.sl (.slice (.int .i64)) (fewL m pots)] := hk
  have h : checkShelf m pots = 0 := hpre
  obtain ⟨f1, f2, f3, f4⟩ := fine_spec h
  have hsm : pots.length ≤ 14 ∧ ∀ p ∈ pots, p.length ≤ 12 := ⟨by omega, fun p hp => by have := f3 p hp; omega⟩
  unfold vc42
  rcases isF_err h with ⟨h1, h2, h3⟩ | ⟨n, h1, h2, h3, h4, h5⟩
  · have e : isF m pots = false := by unfold isF; rw [h1]; rfl
    rw [e, h2] at hk
    rw [h1, h2]
    exact ⟨hsm, hk⟩
  · have e : isF m pots = true := by unfold isF; rw [h2]; rfl
    rw [e] at hk
    have hcb := listsN_cB pots m.toNat n []
    have hn0 : nextOf [] = 0 := rfl
    have h20 := cB_small n (by omega) m.toNat (by omega)
    rw [hn0, ← h4] at hcb
    have hle : (fewL m pots).length ≤ 20 := by
      have e : m.toNat - 0 = m.toNat := by omega
      rw [e] at hcb
      omega
    have hsp := few_spec h h3
    rw [h2, br_bne, br_bf, br_decide]
    refine ⟨hsm, fun h => absurd rfl h, fun _ => ⟨fun _ => ⟨fun h => absurd h (by omega), fun _ => ?_⟩, fun h => ?_⟩⟩
    · refine Loop.upto (fun i => ((i : Int), m, pots, fewL m pots, ())) (fun i => True) (fewL m pots).length rfl trivial ?_ ?_
      · intro i K hi _ hK
        have hK := hK trivial
        dsimp only
        rw [br_decide]
        simp only [Int.toNat_natCast]
        have hs := hsp _ (List.getElem_mem hi)
        have hs0 := hsp _ (List.getElem_mem h5)
        have hll : (fewL m pots)[i].length ≤ 1152921504606846976 := by rw [hs.2.1]; omega
        refine ⟨fun _ => ⟨⟨by omega, hi⟩, hi, hll, ?_⟩, fun h => absurd hi (by omega)⟩
        rw [hs.1]
        refine ⟨⟨by omega, hi⟩, hi, ⟨by omega, h5⟩, h5, ?_⟩
        rw [br_bne]
        refine ⟨fun hne => ?_, fun _ => ⟨⟨by omega, hi⟩, hi, ⟨hsm, hll⟩, ?_⟩⟩
        · exact absurd (show (((fewL m pots)[i].length : Nat) : Int) = (((fewL m pots)[0].length : Nat) : Int) by rw [hs.2.1, hs0.2.1]) hne
        · have hN : hardN m pots (fewL m pots)[i] = 5 := by
            unfold hardN
            rw [if_neg (not_not_intro h), hs.1, hs.2.2]; rfl
          rw [hN]
          exact ⟨fits64 (by omega) (by omega), hK⟩
      · intro K _
        dsimp only
        rw [br_decide]
        exact ⟨fun h => absurd h (by omega), fun _ => hk⟩
    · have := eq_of_beq h
      omega

theorem great_small {pots : List (List Int)} (h : great pots = false) : smallS pots := by
  unfold great at h
  have h1 : decide (14 < pots.length) = false := by
    cases hd : decide (14 < pots.length) with
    | true => rw [hd] at h; cases h
    | false => rfl
  rw [h1, Bool.false_or] at h
  refine ⟨by have := of_decide_eq_false h1; omega, fun p hp => ?_⟩
  have := List.any_eq_false.1 h p hp
  have h2 : ¬ 12 < p.length := fun hh => this (decide_eq_true hh)
  omega
theorem longL_small {l : List Int} (h : longL l = false) : l.length ≤ 1152921504606846976 := by
  have := of_decide_eq_false h
  omega

theorem k3 (hG : Good Try.prog (envOf [(15, mkC [v15]), (16, mkC [v16]), (17, mkC [v17]), (18, mkC [v18]), (19, mkC [v19]), (20, mkC [v20]), (21, mkC [v21]), (22, mkC [v22]), (23, mkC [v23]), (24, mkC [v24])])) : v3.Kept Try.prog 3 := by
  rintro ⟨m, pots, marks, seen, ⟨⟩⟩ hpre k hk
  change List (List Int) at pots
  change Int at m
  change List Int at marks seen
  refine aspec hmix hG Try.func3 tx3 (Eq.mpr (eq3 m pots marks seen k) ?_)
  replace hk : k (.bool true) [] := hk
  unfold vc3
  refine ⟨trivial, br_intro (fun h1 => ⟨trivial, br_intro (fun h2 => ⟨trivial, br_intro (fun h3 => ⟨trivial, hk⟩) (fun h3 => ?_)⟩) (fun h2 => ⟨trivial, hk⟩)⟩) (fun h1 => ⟨trivial, hk⟩)⟩
  have g := great_small (eq_of_beq h1)
  have l1 := longL_small (eq_of_beq h2)
  have l2 := longL_small h3
  have hseen : (seenL m pots seen).length ≤ 1152921504606846976 := by
    unfold seenL
    split
    · simp
    · have := listed_len (agree pots m.toNat seen) pots.length
      have := g.1
      omega
  have eL : eqL (seenL m pots seen) (seenL m pots seen) = true := decide_eq_true rfl
  rw [eL]
  simp only [beq_self_eq_true]
  exact ⟨⟨g, l1⟩, ⟨g.1, l1⟩, ⟨g, l2⟩, ⟨g.1, l2⟩, g, g.1, ⟨hseen, hseen⟩, trivial, hk⟩
end Go.Abs.King
end

section
/- Plain laws of the king's shelves: lists of marks and sets of marks. -/
set_option maxRecDepth 100000
set_option linter.unusedVariables false
namespace Go.Abs.King

theorem not_any_apart {pots : List (List Int)} {m i k j : Nat} (hj : j < m) : decide (apart pots m i k = [(j : Int)]) = (tells pots [(j : Int)] i k && !tells pots (((List.range m).filter (fun x => decide (x ≠ j))).map Int.ofNat) i k) := by
  have h1 : tells pots [(j : Int)] i k = decide (mk pots i j ≠ mk pots k j) := by
    by_cases h : mk pots i j = mk pots k j <;> simp [tells, mkI, h]
  have h2 : ∀ x : Nat, (x : Int) ∈ apart pots m i k ↔ x < m ∧ mk pots i x ≠ mk pots k x := by
    intro x
    rw [apart_mem]
    constructor
    · rintro ⟨y, hy, h⟩
      have : x = y := by omega
      subst this; exact h
    · intro h; exact ⟨x, rfl, h⟩
  have h3 : (tells pots (((List.range m).filter (fun x => decide (x ≠ j))).map Int.ofNat) i k = true) ↔ ∃ x, x < m ∧ x ≠ j ∧ mk pots i x ≠ mk pots k x := by
    have := tells_iff (pots := pots) (marks := ((List.range m).filter (fun x => decide (x ≠ j))).map Int.ofNat) (a := i) (b := k)
    rw [this]
    constructor
    · rintro ⟨y, hy, h⟩
      obtain ⟨x, hx, rfl⟩ := List.mem_map.1 hy
      obtain ⟨hx1, hx2⟩ := List.mem_filter.1 hx
      exact ⟨x, List.mem_range.1 hx1, of_decide_eq_true hx2, h⟩
    · rintro ⟨x, hx, hne, h⟩
      exact ⟨(x : Int), List.mem_map.2 ⟨x, List.mem_filter.2 ⟨List.mem_range.2 hx, decide_eq_true hne⟩, rfl⟩, h⟩
  rw [Bool.eq_iff_iff, decide_eq_true_eq, Bool.and_eq_true, h1, decide_eq_true_eq, Bool.not_eq_true', ← Bool.not_eq_true, h3]
  constructor
  · intro h
    have hjm : (j : Int) ∈ apart pots m i k := by rw [h]; simp
    refine ⟨((h2 j).1 hjm).2, ?_⟩
    rintro ⟨x, hx, hne, hd⟩
    have : (x : Int) ∈ apart pots m i k := (h2 x).2 ⟨hx, hd⟩
    rw [h] at this
    simp at this
    omega
  · rintro ⟨hd, hno⟩
    have hall : ∀ x : Nat, x < m → (decide (mk pots i x ≠ mk pots k x)) = decide (x = j) := by
      intro x hx
      by_cases e : x = j
      · subst e; rw [decide_eq_true hd, decide_eq_true rfl]
      · rw [decide_eq_false e]
        refine decide_eq_false (fun hdx => hno ⟨x, hx, e, hdx⟩)
    unfold apart
    rw [List.filter_congr (q := fun x => decide (x = j)) (fun x hx => hall x (List.mem_range.1 hx))]
    have : ∀ n, j < n → (List.range n).filter (fun x => decide (x = j)) = [j] := by
      intro n
      induction n with
      | zero => intro h; omega
      | succ n ih =>
        intro h
        rw [List.range_succ, List.filter_append]
        by_cases e : n = j
        · subst e
          have : (List.range n).filter (fun x => decide (x = n)) = [] := List.filter_eq_nil_iff.2 (fun x hx => by have := List.mem_range.1 hx; simp; omega)
          rw [this]; simp
        · rw [ih (by omega)]; simp [e]
    rw [this m hj]; rfl

/-- Marks in order, as bits. -/
theorem listed_mem {b n : Nat} {x : Int} : x ∈ listed b n ↔ ∃ i : Nat, x = (i : Int) ∧ i < n ∧ b.testBit i = true := by
  constructor
  · exact mem_listed
  · rintro ⟨i, rfl, h1, h2⟩
    exact List.mem_map.2 ⟨i, List.mem_filter.2 ⟨List.mem_range.2 h1, h2⟩, rfl⟩
theorem listed_sorted (b n : Nat) : (listed b n).Pairwise (· < ·) := by
  unfold listed
  rw [List.pairwise_map]
  refine List.Pairwise.imp (R := (· < ·)) (fun {a b} h => Int.ofNat_lt.2 h) ?_
  exact List.Pairwise.filter _ (List.pairwise_lt_range)
theorem listed_isList (b n : Nat) : isList (listed b n) (n : Int) = true := by
  refine (rises_iff (n : Int) (listed b n) 0).2 ⟨fun x hx => ?_, listed_sorted b n⟩
  obtain ⟨i, rfl, hi, _⟩ := mem_listed hx
  omega
/-- Two lists in order with the same members are the same. -/
theorem sorted_ext {α : Type} (R : α → α → Prop) (irr : ∀ a, ¬ R a a) (tr : ∀ a b c, R a b → R b c → R a c) : ∀ (l l' : List α), l.Pairwise R → l'.Pairwise R → (∀ x, x ∈ l ↔ x ∈ l') → l = l'
  | [], [], _, _, _ => rfl
  | [], y :: l', _, _, h => by have := (h y).2 (by simp); simp at this
  | x :: l, [], _, _, h => by have := (h x).1 (by simp); simp at this
  | x :: l, y :: l', h1, h2, h => by
    rw [List.pairwise_cons] at h1 h2
    have hxy : x = y := by
      have hx := (h x).1 (by simp)
      have hy := (h y).2 (by simp)
      rcases List.mem_cons.1 hx with e | hx
      · exact e
      · rcases List.mem_cons.1 hy with e | hy
        · exact e.symm
        · exact absurd (tr _ _ _ (h1.1 y hy) (h2.1 x hx)) (irr x)
    subst hxy
    congr 1
    refine sorted_ext R irr tr l l' h1.2 h2.2 (fun z => ?_)
    constructor
    · intro hz
      rcases List.mem_cons.1 ((h z).1 (List.mem_cons_of_mem _ hz)) with e | hz'
      · subst e; exact absurd (h1.1 z hz) (irr z)
      · exact hz'
    · intro hz
      rcases List.mem_cons.1 ((h z).2 (List.mem_cons_of_mem _ hz)) with e | hz'
      · subst e; exact absurd (h2.1 z hz) (irr z)
      · exact hz'
/-- A list in order is what some bits say. -/
def bitsL (l : List Int) (n : Nat) : Nat := bitsOf n (fun i => decide ((i : Int) ∈ l))
theorem bitsL_lt (l : List Int) (n : Nat) : bitsL l n < 2 ^ n := bitsOf_lt _ _
theorem listed_bitsL {l : List Int} {n : Nat} (h : isList l (n : Int) = true) : listed (bitsL l n) n = l := by
  obtain ⟨h1, h2⟩ := (rises_iff (n : Int) l 0).1 h
  refine sorted_ext (· < ·) (fun a => Int.lt_irrefl a) (fun a b c => Int.lt_trans) _ _ (listed_sorted _ _) h2 (fun x => ?_)
  rw [listed_mem]
  constructor
  · rintro ⟨i, rfl, hi, ht⟩
    unfold bitsL at ht
    rw [bitsOf_test] at ht
    simp only [Bool.and_eq_true, decide_eq_true_eq] at ht
    exact ht.2
  · intro hx
    have hb := h1 x hx
    obtain ⟨i, rfl⟩ := Int.eq_ofNat_of_zero_le hb.1
    refine ⟨i, rfl, by omega, ?_⟩
    unfold bitsL
    rw [bitsOf_test]
    simp [hx]; omega
theorem listed_inj {b b' n : Nat} (h1 : b < 2 ^ n) (h2 : b' < 2 ^ n) (h : listed b n = listed b' n) : b = b' := by
  refine Nat.eq_of_testBit_eq (fun i => ?_)
  rw [Bool.eq_iff_iff, ← mem_listed' h1 i, ← mem_listed' h2 i, h]

/-- What lists of so many marks more there are. -/
theorem rises_append : ∀ (l r : List Int) (a b : Int), rises a (l ++ r) b = true → rises a l b = true
  | [], _, _, _, _ => rfl
  | x :: l, r, a, b, h => by
    simp only [List.cons_append, rises, Bool.and_eq_true] at h ⊢
    exact ⟨h.1, rises_append l r _ _ h.2⟩
theorem nextOf_le : ∀ (l : List Int) (x : Int) (r : List Int) (a b : Int), 0 ≤ a → rises a (l ++ x :: r) b = true → (nextOf l : Int) ≤ x
  | [], x, r, a, b, ha, h => by
    simp only [List.nil_append, rises, Bool.and_eq_true, decide_eq_true_eq] at h
    show ((0 : Nat) : Int) ≤ x
    omega
  | [y], x, r, a, b, ha, h => by
    simp only [List.cons_append, List.nil_append, rises, Bool.and_eq_true, decide_eq_true_eq] at h
    show (((y + 1).toNat : Nat) : Int) ≤ x
    omega
  | y :: z :: l, x, r, a, b, ha, h => by
    simp only [List.cons_append, rises, Bool.and_eq_true, decide_eq_true_eq] at h
    have := nextOf_le (z :: l) x r (y + 1) b (by omega) (by
      simp only [List.cons_append, rises, Bool.and_eq_true, decide_eq_true_eq]
      exact h.2)
    exact this
theorem listsN_full {pots : List (List Int)} {m : Nat} : ∀ (n : Nat) (l r : List Int), r.length = n → isList (l ++ r) (m : Int) = true → hardB pots (l ++ r) = false → l ++ r ∈ listsN pots m n l
  | 0, l, r, hr, _, hh => by
    obtain rfl : r = [] := List.length_eq_zero_iff.1 hr
    rw [List.append_nil] at hh ⊢
    unfold listsN
    rw [hh]
    simp
  | n + 1, l, [], hr, _, _ => by simp at hr
  | n + 1, l, x :: r, hr, hl, hh => by
    have e : l ++ x :: r = (l ++ [x]) ++ r := by simp
    have hin := ((rises_iff (m : Int) _ 0).1 hl).1 x (by simp)
    have hnx := nextOf_le l x r 0 (m : Int) (Int.le_refl 0) hl
    obtain ⟨j, rfl⟩ := Int.eq_ofNat_of_zero_le hin.1
    unfold listsN
    refine List.mem_flatMap.2 ⟨j, List.mem_range'_1.2 ⟨by omega, by omega⟩, ?_⟩
    rw [e]
    exact listsN_full n (l ++ [(j : Int)]) r (by simpa using hr) (e ▸ hl) (e ▸ hh)
theorem listsN_iff {pots : List (List Int)} {m n : Nat} {x : List Int} : x ∈ listsN pots m n [] ↔ isList x (m : Int) = true ∧ x.length = n ∧ hardB pots x = false := by
  constructor
  · intro h
    have := listsN_spec n [] x rfl h
    simpa using this
  · rintro ⟨h1, h2, h3⟩
    exact listsN_full n [] x h2 h1 h3

/-- Before, of lists that are as long. -/
theorem before_irr : ∀ l : List Int, ¬ beforeL l l = true
  | [] => by simp [beforeL]
  | x :: l => by
    unfold beforeL
    rw [if_pos rfl]
    exact before_irr l
theorem before_tr : ∀ a b c : List Int, beforeL a b = true → beforeL b c = true → beforeL a c = true
  | [], _, _, h, _ => by simp [beforeL] at h
  | _ :: _, [], _, h, _ => by simp [beforeL] at h
  | _ :: _, _ :: _, [], _, h => by simp [beforeL] at h
  | x :: a, y :: b, z :: c, h, h' => by
    unfold beforeL at h h' ⊢
    by_cases e1 : x = y
    · subst e1
      rw [if_pos rfl] at h
      by_cases e2 : x = z
      · subst e2
        rw [if_pos rfl] at h' ⊢
        exact before_tr a b c h h'
      · rw [if_neg e2] at h' ⊢; exact h'
    · rw [if_neg e1] at h
      have h := of_decide_eq_true h
      by_cases e2 : y = z
      · subst e2
        rw [if_neg e1]; exact decide_eq_true h
      · rw [if_neg e2] at h'
        have h' := of_decide_eq_true h'
        rw [if_neg (by omega)]; exact decide_eq_true (by omega)
theorem before_tri : ∀ a b : List Int, a.length = b.length → a ≠ b → beforeL a b = false → beforeL b a = true
  | [], [], _, h, _ => absurd rfl h
  | x :: a, y :: b, hl, hne, h => by
    unfold beforeL at h ⊢
    by_cases e : x = y
    · subst e
      rw [if_pos rfl] at h ⊢
      exact before_tri a b (by simpa using hl) (fun e => hne (by rw [e])) h
    · rw [if_neg e] at h
      have h := of_decide_eq_false h
      rw [if_neg (fun e' => e e'.symm)]; exact decide_eq_true (by omega)
theorem before_append (l : List Int) (x y : Int) (a b : List Int) (h : x < y) : beforeL (l ++ x :: a) (l ++ y :: b) = true := by
  induction l with
  | nil =>
    show beforeL (x :: a) (y :: b) = true
    unfold beforeL
    rw [if_neg (by omega)]; exact decide_eq_true h
  | cons z l ih =>
    show beforeL (z :: (l ++ x :: a)) (z :: (l ++ y :: b)) = true
    unfold beforeL
    rw [if_pos rfl]; exact ih
theorem listsN_prefix {pots : List (List Int)} {m : Nat} : ∀ (n : Nat) (l x : List Int), x ∈ listsN pots m n l → ∃ r, x = l ++ r
  | 0, l, x, h => by
    unfold listsN at h
    split at h
    · simp at h
    · simp only [List.mem_singleton] at h; exact ⟨[], by simp [h]⟩
  | n + 1, l, x, h => by
    unfold listsN at h
    obtain ⟨j, _, h⟩ := List.mem_flatMap.1 h
    obtain ⟨r, rfl⟩ := listsN_prefix n _ x h
    exact ⟨(j : Int) :: r, by simp⟩
theorem listsN_sorted {pots : List (List Int)} {m : Nat} : ∀ (n : Nat) (l : List Int), (listsN pots m n l).Pairwise (fun a b => beforeL a b = true)
  | 0, l => by
    unfold listsN
    split <;> simp
  | n + 1, l => by
    unfold listsN
    rw [List.pairwise_flatMap]
    refine ⟨fun j _ => listsN_sorted n _, ?_⟩
    refine List.Pairwise.imp (R := (· < ·)) ?_ (List.pairwise_lt_range' (s := nextOf l) (n := m - nextOf l))
    intro j j' hlt x hx y hy
    obtain ⟨r, rfl⟩ := listsN_prefix n _ x hx
    obtain ⟨r', rfl⟩ := listsN_prefix n _ y hy
    have := before_append l (j : Int) (j' : Int) r r' (Int.ofNat_lt.2 hlt)
    simpa using this
end Go.Abs.King
end

section
/- Plain laws of the king's looks: within how many looks some pots can be told apart. -/
set_option maxRecDepth 100000
set_option linter.unusedVariables false
namespace Go.Abs.King

/-- Pots of a set can be told apart within so many looks. -/
def T (f : Nat → Nat → Int) (m : Nat) : Nat → (Nat → Prop) → Prop
  | 0, S => ∀ i k, S i → S k → i = k
  | d + 1, S => (∀ i k, S i → S k → i = k) ∨ ∃ j, j < m ∧ ∀ v : Int, T f m d (fun i => S i ∧ f i j = v)

theorem T_one {f : Nat → Nat → Int} {m : Nat} {S : Nat → Prop} (h : ∀ i k, S i → S k → i = k) : ∀ d, T f m d S
  | 0 => h
  | _ + 1 => Or.inl h
theorem T_sub {f : Nat → Nat → Int} {m : Nat} : ∀ (d : Nat) {S S' : Nat → Prop}, (∀ i, S' i → S i) → T f m d S → T f m d S'
  | 0, S, S', hs, h => fun i k hi hk => h i k (hs i hi) (hs k hk)
  | d + 1, S, S', hs, h => by
    rcases h with h | ⟨j, hj, h⟩
    · exact Or.inl (fun i k hi hk => h i k (hs i hi) (hs k hk))
    · exact Or.inr ⟨j, hj, fun v => T_sub d (fun i hi => ⟨hs i hi.1, hi.2⟩) (h v)⟩
theorem T_succ {f : Nat → Nat → Int} {m : Nat} : ∀ (d : Nat) {S : Nat → Prop}, T f m d S → T f m (d + 1) S
  | 0, S, h => Or.inl h
  | d + 1, S, h => by
    rcases h with h | ⟨j, hj, h⟩
    · exact Or.inl h
    · exact Or.inr ⟨j, hj, fun v => T_succ d (h v)⟩
theorem T_le {f : Nat → Nat → Int} {m : Nat} {d d' : Nat} {S : Nat → Prop} (h : d ≤ d') (ht : T f m d S) : T f m d' S := by
  obtain ⟨e, rfl⟩ : ∃ e, d' = d + e := ⟨d' - d, by omega⟩
  clear h
  induction e with
  | zero => exact ht
  | succ e ih => exact T_succ _ ih
theorem T_told {f : Nat → Nat → Int} {m : Nat} : ∀ (d : Nat) {S : Nat → Prop}, T f m d S → ∀ i k, S i → S k → i ≠ k → ∃ j, j < m ∧ f i j ≠ f k j
  | 0, S, h, i, k, hi, hk, hne => absurd (h i k hi hk) hne
  | d + 1, S, h, i, k, hi, hk, hne => by
    rcases h with h | ⟨j, hj, h⟩
    · exact absurd (h i k hi hk) hne
    · by_cases e : f i j = f k j
      · exact T_told d (h (f i j)) i k ⟨hi, rfl⟩ ⟨hk, e.symm⟩ hne
      · exact ⟨j, hj, e⟩
theorem T_marks {f : Nat → Nat → Int} {m : Nat} : ∀ (L : List Nat), (∀ j ∈ L, j < m) → ∀ {S : Nat → Prop}, (∀ i k, S i → S k → i ≠ k → ∃ j ∈ L, f i j ≠ f k j) → T f m L.length S
  | [], _, S, h => fun i k hi hk => by
    by_cases e : i = k
    · exact e
    · obtain ⟨j, hj, _⟩ := h i k hi hk e; simp at hj
  | j :: L, hL, S, h => by
    refine Or.inr ⟨j, hL j (by simp), fun v => T_marks L (fun x hx => hL x (List.mem_cons_of_mem _ hx)) (fun i k hi hk hne => ?_)⟩
    obtain ⟨x, hx, hd⟩ := h i k hi.1 hk.1 hne
    rcases List.mem_cons.1 hx with e | hx
    · subst e; exact absurd (hi.2.trans hk.2.symm) hd
    · exact ⟨x, hx, hd⟩

/-- The pots that bits say. -/
def B (b : Nat) (i : Nat) : Prop := b.testBit i = true

theorem part_set {pots : List (List Int)} {b j : Nat} {v : Int} (hb : b < 2 ^ pots.length) (i : Nat) : B (partOf pots b j v) i ↔ B b i ∧ mk pots i j = v := by
  unfold B partOf
  rw [bitsOf_test]
  simp only [Bool.and_eq_true, decide_eq_true_eq]
  constructor
  · rintro ⟨_, h⟩; exact h
  · intro h; exact ⟨lt_of_test hb h.1, h⟩
theorem cnt_small {b n : Nat} (hb : b < 2 ^ n) (h : cnt b n < 2) : ∀ i k, B b i → B b k → i = k := by
  intro i k hi hk
  have h1 := (mem_listed' hb i).2 hi
  have h2 := (mem_listed' hb k).2 hk
  unfold cnt at h
  match hl : listed b n with
  | [] => rw [hl] at h1; simp at h1
  | [x] =>
    rw [hl] at h1 h2
    have e1 := List.mem_singleton.1 h1
    have e2 := List.mem_singleton.1 h2
    omega
  | x :: y :: l => rw [hl] at h; simp only [List.length_cons] at h; omega
theorem cnt_big {b n : Nat} (hb : b < 2 ^ n) (h : ∀ i k, B b i → B b k → i = k) : cnt b n < 2 := by
  unfold cnt
  have hs := listed_sorted b n
  match hl : listed b n with
  | [] => simp
  | [x] => simp
  | x :: y :: l =>
    exfalso
    rw [hl] at hs
    have hx : x ∈ listed b n := by rw [hl]; simp
    have hy : y ∈ listed b n := by rw [hl]; simp
    obtain ⟨i, rfl, _, hi⟩ := mem_listed hx
    obtain ⟨k, rfl, _, hk⟩ := mem_listed hy
    have := h i k hi hk
    subst this
    rw [List.pairwise_cons] at hs
    have := hs.1 _ (List.mem_cons_self ..)
    omega
theorem foldl_max_ge {g : Nat → Int} : ∀ (l : List Nat) (a : Int), ∀ p ∈ l, g p ≤ l.foldl (fun n p => max n (g p)) a
  | [], _, p, hp => by simp at hp
  | x :: l, a, p, hp => by
    simp only [List.foldl_cons]
    rcases List.mem_cons.1 hp with e | hp
    · subst e
      have : ∀ (l : List Nat) (a : Int), a ≤ l.foldl (fun n p => max n (g p)) a := by
        intro l
        induction l with
        | nil => intro a; exact Int.le_refl _
        | cons y l ih => intro a; simp only [List.foldl_cons]; have := ih (max a (g y)); omega
      have := this l (max a (g p))
      omega
    · exact foldl_max_ge l _ p hp
theorem parts_of {pots : List (List Int)} {b j v : Nat} (hv : v < 5) : partOf pots b j (v : Int) ∈ parts5 pots b j := by
  unfold parts5
  match v, hv with
  | 0, _ => simp
  | 1, _ => simp
  | 2, _ => simp
  | 3, _ => simp
  | 4, _ => simp
theorem worst_ge {g : Nat → Int} {pots : List (List Int)} {b j : Nat} (h : 0 ≤ worstOf g pots b j) (v : Nat) (hv : v < 5) : g (partOf pots b j (v : Int)) ≤ worstOf g pots b j := by
  rw [worstOf_eq] at h ⊢
  split at h
  · rename_i hh
    rw [if_pos hh]
    exact foldl_max_ge _ _ _ (parts_of hv)
  · omega
theorem worst_le {g : Nat → Int} {pots : List (List Int)} {b j : Nat} {d : Int} (hd : 0 ≤ d) (hp : ∀ v : Nat, v < 5 → partOf pots b j (v : Int) ≠ b) (h : ∀ v : Nat, v < 5 → 0 ≤ g (partOf pots b j (v : Int)) ∧ g (partOf pots b j (v : Int)) ≤ d) : 0 ≤ worstOf g pots b j ∧ worstOf g pots b j ≤ d := by
  have hall : ∀ p ∈ parts5 pots b j, 0 ≤ g p ∧ g p ≤ d := by
    intro p hp
    obtain ⟨v, hv, rfl⟩ := parts_mem hp
    exact h v hv
  rw [worstOf_eq, if_pos ⟨proper_iff.2 hp, fun p hp => (hall p hp).1⟩]
  exact foldl_max_bounds g d _ 0 hd (fun p hp => (hall p hp).2)
theorem best_fold {g : Nat → Int} {pots : List (List Int)} {b : Nat} : ∀ n, ((List.range n).foldl (bestStep g pots b) (-1) = -1 ∨ ∃ j, j < n ∧ 0 ≤ worstOf g pots b j ∧ (List.range n).foldl (bestStep g pots b) (-1) = worstOf g pots b j + 1) ∧ ∀ j, j < n → 0 ≤ worstOf g pots b j → 0 ≤ (List.range n).foldl (bestStep g pots b) (-1) ∧ (List.range n).foldl (bestStep g pots b) (-1) ≤ worstOf g pots b j + 1
  | 0 => ⟨Or.inl rfl, fun j h => by omega⟩
  | n + 1 => by
    obtain ⟨h1, h2⟩ := best_fold (g := g) (pots := pots) (b := b) n
    rw [List.range_succ, List.foldl_append]
    simp only [List.foldl_cons, List.foldl_nil]
    generalize List.foldl (bestStep g pots b) (-1) (List.range n) = z at h1 h2 ⊢
    have hz : z = -1 ∨ 0 ≤ z := by
      rcases h1 with h1 | ⟨j, _, h3, h4⟩
      · exact Or.inl h1
      · right; omega
    unfold bestStep
    split
    · rename_i hc
      refine ⟨Or.inr ⟨n, by omega, hc.1, rfl⟩, fun j hj hw => ⟨by omega, ?_⟩⟩
      rcases Nat.lt_or_ge j n with h' | h'
      · have := h2 j h' hw; omega
      · obtain rfl : j = n := by omega
        omega
    · rename_i hc
      refine ⟨?_, fun j hj hw => ?_⟩
      · rcases h1 with h1 | ⟨j, h3, h4⟩
        · exact Or.inl h1
        · exact Or.inr ⟨j, by omega, h4⟩
      · rcases Nat.lt_or_ge j n with h' | h'
        · exact h2 j h' hw
        · obtain rfl : j = n := by omega
          omega

theorem looks_T {m : Nat} {pots : List (List Int)} (hf : checkShelf (m : Int) pots = 0) : ∀ (N b d : Nat), b < N → b < 2 ^ pots.length → (T (mk pots) m d (B b) ↔ 0 ≤ looks pots m b ∧ looks pots m b ≤ (d : Int))
  | 0, b, d, h, _ => by omega
  | N + 1, b, d, h, hb => by
    obtain ⟨f1, f2, f3, f4⟩ := fine_spec hf
    by_cases hc : cnt b pots.length < 2
    · have hl : looks pots m b = 0 := by rw [looks_eq, if_pos hc]
      rw [hl]
      exact ⟨fun _ => by omega, fun _ => T_one (cnt_small hb hc) d⟩
    have hl : looks pots m b = (List.range m).foldl (bestStep (looks pots m) pots b) (-1) := by rw [looks_eq, if_neg hc]; rfl
    obtain ⟨g1, g2⟩ := best_fold (g := looks pots m) (pots := pots) (b := b) m
    rw [← hl] at g1 g2
    have hnone : ∀ (j : Nat) (v : Int), (∀ u : Nat, u < 5 → v ≠ (u : Int)) → j < m → ∀ i, ¬ (B b i ∧ mk pots i j = v) := by
      rintro j v hv hj i ⟨hi, hm⟩
      have hin := lt_of_test hb hi
      have hlen := f3 _ (List.getElem_mem hin)
      have hjl : j < pots[i].length := by omega
      rw [mk_eq hin hjl] at hm
      have := f4 _ (List.getElem_mem hin) _ (List.getElem_mem hjl)
      exact hv (v.toNat) (by omega) (by omega)
    constructor
    · intro ht
      induction d with
      | zero => exact absurd (cnt_big hb ht) hc
      | succ d ih =>
        rcases ht with ht | ⟨j, hj, ht⟩
        · exact absurd (cnt_big hb ht) hc
        · have hpart : ∀ v : Nat, T (mk pots) m d (B (partOf pots b j (v : Int))) := fun v => T_sub d (fun i hi => (part_set hb i).1 hi) (ht (v : Int))
          by_cases hp : ∀ v : Nat, v < 5 → partOf pots b j (v : Int) ≠ b
          · have hw : 0 ≤ worstOf (looks pots m) pots b j ∧ worstOf (looks pots m) pots b j ≤ (d : Int) := by
              refine worst_le (by omega) hp (fun v hv => ?_)
              have hle := partOf_le pots b j (v : Int)
              have hne := hp v hv
              exact (looks_T hf N _ d (by omega) (partOf_lt _ _ _ _)).1 (hpart v)
            have := g2 j hj hw.1
            omega
          · obtain ⟨v, hv⟩ : ∃ v : Nat, ¬ (v < 5 → partOf pots b j (v : Int) ≠ b) := by
              by_cases he : ∃ v : Nat, ¬ (v < 5 → partOf pots b j (v : Int) ≠ b)
              · exact he
              · exact absurd (fun v => Classical.not_not.1 (fun h => he ⟨v, h⟩)) hp
            have he : partOf pots b j (v : Int) = b := by
              by_cases e : partOf pots b j (v : Int) = b
              · exact e
              · exact absurd (fun _ => e) hv
            have h2 := hpart v
            rw [he] at h2
            have := ih h2
            omega
    · rintro ⟨h0, hd⟩
      rcases g1 with g1 | ⟨j, hj, hw, he⟩
      · omega
      · obtain ⟨d', rfl⟩ : ∃ d', d = d' + 1 := ⟨d - 1, by omega⟩
        have hwn := worst_nonneg hw
        refine Or.inr ⟨j, hj, fun v => ?_⟩
        by_cases hv : ∃ u : Nat, u < 5 ∧ v = (u : Int)
        · obtain ⟨u, hu, rfl⟩ := hv
          have hle := partOf_le pots b j (u : Int)
          have hne := hwn.1 u hu
          have h0 := hwn.2 u hu
          have h1 := worst_ge hw u hu
          exact T_sub d' (fun i hi => (part_set hb i).2 hi) ((looks_T hf N (partOf pots b j (u : Int)) d' (by omega) (partOf_lt _ _ _ _)).2 ⟨h0, by omega⟩)
        · exact T_one (fun i k hi _ => absurd hi (hnone j v (fun u hu e => hv ⟨u, hu, e⟩) hj i)) d'
theorem looks_iff {m : Nat} {pots : List (List Int)} (hf : checkShelf (m : Int) pots = 0) {b : Nat} (hb : b < 2 ^ pots.length) (d : Nat) : T (mk pots) m d (B b) ↔ 0 ≤ looks pots m b ∧ looks pots m b ≤ (d : Int) := looks_T hf (b + 1) b d (Nat.lt_succ_self _) hb

/-- That some pots can be told apart at all. -/
def Told (pots : List (List Int)) (m : Nat) (S : Nat → Prop) : Prop := ∀ i k, S i → S k → i ≠ k → ∃ j, j < m ∧ mk pots i j ≠ mk pots k j
theorem told_looks {m : Nat} {pots : List (List Int)} (hf : checkShelf (m : Int) pots = 0) {b : Nat} (hb : b < 2 ^ pots.length) : 0 ≤ looks pots m b ↔ Told pots m (B b) := by
  constructor
  · intro h
    have := (looks_iff hf hb (looks pots m b).toNat).2 ⟨h, by omega⟩
    exact T_told _ this
  · intro h
    have := T_marks (f := mk pots) (m := m) (List.range m) (fun j hj => List.mem_range.1 hj) (S := B b) (fun i k hi hk hne => by
      obtain ⟨j, hj, hd⟩ := h i k hi hk hne
      exact ⟨j, List.mem_range.2 hj, hd⟩)
    exact ((looks_iff hf hb _).1 this).1
theorem looks_le_marks {m : Nat} {pots : List (List Int)} (hf : checkShelf (m : Int) pots = 0) {b : Nat} (hb : b < 2 ^ pots.length) {L : List Nat} (hL : ∀ j ∈ L, j < m) (h : ∀ i k, B b i → B b k → i ≠ k → ∃ j ∈ L, mk pots i j ≠ mk pots k j) : 0 ≤ looks pots m b ∧ looks pots m b ≤ (L.length : Int) := (looks_iff hf hb _).1 (T_marks L hL h)
theorem looks_le_m {m : Nat} {pots : List (List Int)} (hf : checkShelf (m : Int) pots = 0) {b : Nat} (hb : b < 2 ^ pots.length) : looks pots m b ≤ (m : Int) := by
  by_cases h : 0 ≤ looks pots m b
  · have ht := (told_looks hf hb).1 h
    have := (looks_le_marks hf hb (L := List.range m) (fun j hj => List.mem_range.1 hj) (fun i k hi hk hne => by
      obtain ⟨j, hj, hd⟩ := ht i k hi hk hne
      exact ⟨j, List.mem_range.2 hj, hd⟩)).2
    simpa using this
  · omega
/-- Fewer pots need no more looks. -/
theorem looks_mono {m : Nat} {pots : List (List Int)} (hf : checkShelf (m : Int) pots = 0) {b c : Nat} (hb : b < 2 ^ pots.length) (hc : c < 2 ^ pots.length) (hs : ∀ i, B c i → B b i) (h : 0 ≤ looks pots m b) : 0 ≤ looks pots m c ∧ looks pots m c ≤ looks pots m b := by
  have := (looks_iff hf hb (looks pots m b).toNat).2 ⟨h, by omega⟩
  have := (looks_iff hf hc _).1 (T_sub _ hs this)
  omega

theorem hardB_iff {pots : List (List Int)} {marks : List Int} : hardB pots marks = true ↔ ∃ i k, i < k ∧ k < pots.length ∧ tells pots marks i k = false := by
  have hp : hardB pots marks = (hardP pots marks).isSome := by
    unfold hardB hardOf
    cases hardP pots marks <;> rfl
  rw [hp]
  unfold hardP
  rw [List.find?_isSome]
  constructor
  · rintro ⟨u, hu, ht⟩
    unfold pairs at hu
    obtain ⟨i, hi, hu⟩ := List.mem_flatMap.1 hu
    obtain ⟨k, hk, rfl⟩ := List.mem_map.1 hu
    have hk := List.mem_range'_1.1 hk
    have hi := List.mem_range.1 hi
    exact ⟨i, k, by omega, by omega, by simpa using ht⟩
  · rintro ⟨i, k, hik, hk, ht⟩
    refine ⟨(i, k), ?_, by simpa using ht⟩
    unfold pairs
    exact List.mem_flatMap.2 ⟨i, List.mem_range.2 (by omega), List.mem_map.2 ⟨k, List.mem_range'_1.2 ⟨by omega, by omega⟩, rfl⟩⟩
theorem hard_false {pots : List (List Int)} {marks : List Int} (h : hardB pots marks = false) {i k : Nat} (hi : i < pots.length) (hk : k < pots.length) (hne : i ≠ k) : ∃ y ∈ marks, mk pots i y.toNat ≠ mk pots k y.toNat := by
  have key : ∀ a b, a < b → b < pots.length → tells pots marks a b = true := by
    intro a b hab hb
    cases ht : tells pots marks a b with
    | true => rfl
    | false => rw [hardB_iff.2 ⟨a, b, hab, hb, ht⟩] at h; cases h
  rcases Nat.lt_or_ge i k with h' | h'
  · exact tells_iff.1 (key i k h' hk)
  · obtain ⟨y, hy, hd⟩ := tells_iff.1 (key k i (by omega) hi)
    exact ⟨y, hy, fun e => hd e.symm⟩
/-- All marks. -/
theorem all_marks {m : Nat} {x : Int} : x ∈ listed (2 ^ m - 1) m ↔ ∃ i : Nat, x = (i : Int) ∧ i < m := by
  rw [listed_mem]
  constructor
  · rintro ⟨i, h1, h2, _⟩; exact ⟨i, h1, h2⟩
  · rintro ⟨i, h1, h2⟩
    exact ⟨i, h1, h2, by rw [Nat.testBit_two_pow_sub_one]; exact decide_eq_true h2⟩
theorem all_bits {n i : Nat} : B (2 ^ n - 1) i ↔ i < n := by
  unfold B
  rw [Nat.testBit_two_pow_sub_one, decide_eq_true_eq]
theorem all_lt (n : Nat) : 2 ^ n - 1 < 2 ^ n := by
  have : 1 ≤ 2 ^ n := Nat.one_le_two_pow
  omega
/-- All pots can be told apart just if all marks tell the shelf. -/
theorem told_all {m : Nat} {pots : List (List Int)} : toldAll (m : Int) pots = true ↔ Told pots m (fun i => i < pots.length) := by
  unfold toldAll
  rw [Int.toNat_natCast]
  constructor
  · intro h i k hi hk hne
    have h : hardB pots (listed (2 ^ m - 1) m) = false := by
      cases hh : hardB pots (listed (2 ^ m - 1) m) with
      | true => rw [hh] at h; cases h
      | false => rfl
    obtain ⟨y, hy, hd⟩ := hard_false h hi hk hne
    obtain ⟨j, rfl, hj⟩ := all_marks.1 hy
    exact ⟨j, hj, hd⟩
  · intro h
    cases hh : hardB pots (listed (2 ^ m - 1) m) with
    | false => rfl
    | true =>
      exfalso
      obtain ⟨i, k, hik, hk, ht⟩ := hardB_iff.1 hh
      obtain ⟨j, hj, hd⟩ := h i k (by omega) hk (by omega)
      have := tells_iff.2 ⟨(j : Int), all_marks.2 ⟨j, rfl, hj⟩, hd⟩
      rw [this] at ht; cases ht
theorem can_told {m : Nat} {pots : List (List Int)} (hf : checkShelf (m : Int) pots = 0) : canTree (m : Int) pots = toldAll (m : Int) pots := by
  rw [Bool.eq_iff_iff, told_all]
  unfold canTree
  rw [decide_eq_true_eq, Int.toNat_natCast, told_looks hf (all_lt _)]
  unfold Told
  simp only [all_bits]
end Go.Abs.King
end

section
/- The king's functions keep their contracts: looks of all sets, by the references. -/
open Go.Proofs
set_option maxRecDepth 100000
set_option linter.unusedVariables false
namespace Go.Abs.King

/-- The looks of the first sets. -/
def outUp (pots : List (List Int)) (m b : Nat) : List Int := (List.range (2 ^ pots.length)).map (fun i => if i < b then looks pots m i else 0)
theorem outUp_len (pots : List (List Int)) (m b : Nat) : (outUp pots m b).length = 2 ^ pots.length := by simp [outUp]
theorem outUp_get (pots : List (List Int)) (m b i : Nat) (h : i < (outUp pots m b).length) : (outUp pots m b)[i] = if i < b then looks pots m i else 0 := by simp [outUp]
theorem outUp_set (pots : List (List Int)) (m b : Nat) : (outUp pots m b).set b (looks pots m b) = outUp pots m (b + 1) := by
  apply List.ext_getElem
  · simp [outUp_len]
  · intro i h1 h2
    rw [List.getElem_set]
    by_cases e : b = i
    · subst e; rw [if_pos rfl, outUp_get, if_pos (by omega)]
    · rw [if_neg e, outUp_get, outUp_get]
      by_cases h : i < b
      · rw [if_pos h, if_pos (by omega)]
      · rw [if_neg h, if_neg (by omega)]
theorem outUp_skip (pots : List (List Int)) (m b : Nat) (h : looks pots m b = 0) : outUp pots m (b + 1) = outUp pots m b := by
  rw [← outUp_set, h]
  apply List.ext_getElem
  · simp
  · intro i h1 h2
    rw [List.getElem_set]
    by_cases e : b = i
    · subst e; rw [if_pos rfl, outUp_get, if_neg (by omega)]
    · rw [if_neg e]
theorem outUp_all (m : Int) (pots : List (List Int)) : outUp pots m.toNat (2 ^ pots.length) = looksAll m pots := by
  unfold outUp looksAll
  refine List.map_congr_left (fun i hi => ?_)
  rw [if_pos (List.mem_range.1 hi)]
theorem looksAll_get (m : Int) (pots : List (List Int)) (i : Nat) (h : i < (looksAll m pots).length) : (looksAll m pots)[i] = looks pots m.toNat i := by simp [looksAll]
theorem looksAll_len (m : Int) (pots : List (List Int)) : (looksAll m pots).length = 2 ^ pots.length := by simp [looksAll]
theorem cnt_pos {b n : Nat} (h0 : 0 < b) (hb : b < 2 ^ n) : 1 ≤ cnt b n := by
  obtain ⟨i, hi⟩ : ∃ i, b.testBit i = true := by
    by_cases h : ∃ i, b.testBit i = true
    · exact h
    · exfalso
      have : b = 0 := Nat.eq_of_testBit_eq (fun i => by
        rw [Nat.zero_testBit]
        cases hh : b.testBit i with
        | false => rfl
        | true => exact absurd ⟨i, hh⟩ h)
      omega
  have := (mem_listed' hb i).2 hi
  unfold cnt
  exact List.length_pos_of_mem this
theorem worst_out {pots : List (List Int)} {m b j : Nat} {z : Int} (hb : b < 2 ^ pots.length) : worstL pots ((outUp pots m b).set b z) (b : Int) (j : Int) = worstOf (looks pots m) pots b j := by
  show worstOf (getL ((outUp pots m b).set b z)) pots b j = _
  refine worstOf_congr pots b j (fun p hp => ?_)
  unfold getL
  rw [getD_lt _ _ (by rw [List.length_set, outUp_len]; omega), List.getElem_set, if_neg (by omega), outUp_get, if_pos hp]

theorem k39 (hG : Good Try.prog (envOf [(41, mkC [v41]), (71, mkC [v71])])) : v39.Kept Try.prog 39 := by
  rintro ⟨m, pots, ⟨⟩⟩ hpre k hk
  change List (List Int) at pots
  change Int at m
  refine aspec hmix hG Try.func39 tx39 (Eq.mpr (eq39 m pots k) ?_)
  replace hk : k (.reg 0 false) [.sl (.int .i64) (looksAll m pots)] := hk
  have hf : checkShelf m pots = 0 := hpre
  obtain ⟨f1, f2, f3, f4⟩ := fine_spec hf
  obtain ⟨mm, rfl⟩ := Int.eq_ofNat_of_zero_le (show 0 ≤ m by omega)
  have hp8 : 2 ^ pots.length ≤ 2 ^ 8 := Nat.pow_le_pow_right (by omega) (by omega)
  have h256 : (2 : Nat) ^ 8 = 256 := by decide
  have hp1 : 1 ≤ 2 ^ pots.length := Nat.one_le_two_pow
  have hsh : shlA .i64 1 ((pots.length : Nat) : Int) = ((2 ^ pots.length : Nat) : Int) := one_shl _ (by omega)
  unfold vc39
  rw [hsh]
  refine ⟨by omega, ⟨by omega, rfl, by simp only [big]; omega⟩, ?_⟩
  rw [Int.toNat_natCast]
  have e0 : List.replicate (2 ^ pots.length) (Int.ofNat 0) = outUp pots mm 1 := by
    apply List.ext_getElem
    · simp [outUp_len]
    · intro i h1 h2
      rw [List.getElem_replicate, outUp_get]
      by_cases h : i < 1
      · obtain rfl : i = 0 := by omega
        rw [if_pos h]
        have := looks_bounds pots mm 0
        have h3 : looks pots mm 0 = 0 := by
          rw [looks_eq, if_pos]
          have : listed 0 pots.length = [] := by
            unfold listed
            rw [List.filter_eq_nil_iff.2 (fun i _ => by rw [Nat.zero_testBit]; simp)]; rfl
          unfold cnt; rw [this]; simp
        rw [h3]; rfl
      · rw [if_neg h]; rfl
  rw [e0]
  refine Loop.upto (fun c => (((c + 1 : Nat) : Int), (mm : Int), pots, outUp pots mm (c + 1), ())) (fun c => True) (2 ^ pots.length - 1) rfl trivial ?_ ?_
  · intro c K hc _ hK
    have hK := hK trivial
    dsimp only
    have hol := outUp_len pots mm (c + 1)
    rw [br_decide]
    simp only [Int.toNat_natCast]
    refine ⟨fun _ => ⟨⟨⟨by show (0 : Int) ≤ ((c + 1 : Nat) : Int); omega, by show ((c + 1 : Nat) : Int) < 4611686018427387904; omega⟩, by show (0 : Int) ≤ ((pots.length : Nat) : Int); omega, by show ((pots.length : Nat) : Int) ≤ 40; omega⟩, ?_⟩, fun h => absurd hc (by omega)⟩
    generalize hbb : c + 1 = b at *
    have hb : b < 2 ^ pots.length := by omega
    have hcp := cnt_pos (by omega : 0 < b) hb
    have hcl : (listed b pots.length).length = cnt b pots.length := rfl
    rw [br_beq, hcl]
    refine ⟨fun h1 => ⟨fits64 (by omega) (by omega), ?_⟩, fun h1 => ⟨⟨by omega, by omega⟩, by omega, ?_⟩⟩
    · have hl : looks pots mm b = 0 := by rw [looks_eq, if_pos (by omega)]
      rw [outUp_skip _ _ _ hl] at hK
      exact hK
    have hl : looks pots mm b = bestOf (looks pots mm) pots mm b := by rw [looks_eq, if_neg (by omega)]
    have hneg : (-1 : Int) = (List.range 0).foldl (bestStep (looks pots mm) pots b) (-1) := rfl
    refine Loop.upto (fun j => ((b : Int), (j : Int), (mm : Int), pots, (outUp pots mm b).set b ((List.range j).foldl (bestStep (looks pots mm) pots b) (-1)), ())) (fun j => True) mm rfl trivial ?_ ?_
    · intro j K2 hj _ hK2
      have hK2 := hK2 trivial
      dsimp only
      have hbd := bestFold_bounds (looks pots mm) pots b (fun p _ => (looks_bounds pots mm p).2) (List.range j) (-1) (Or.inl rfl) (by omega)
      rw [List.range_succ, List.foldl_append] at hK2
      simp only [List.foldl_cons, List.foldl_nil] at hK2
      generalize (List.range j).foldl (bestStep (looks pots mm) pots b) (-1) = z at hK2 hbd ⊢
      have hsl : ((outUp pots mm b).set b z).length = 2 ^ pots.length := by rw [List.length_set, outUp_len]
      have hget : ((outUp pots mm b).set b z)[b]'(by omega) = z := List.getElem_set_self _
      have hwb := worst_bounds pots mm b j
      rw [br_decide, worst_out hb]
      simp only [Int.toNat_natCast]
      refine ⟨fun _ => ⟨⟨hf, hsl, ⟨by show (0 : Int) ≤ (b : Int); omega, by show (b : Int) < ((2 ^ pots.length : Nat) : Int); omega⟩, by show (0 : Int) ≤ (j : Int); omega, by show (j : Int) < (mm : Int); omega⟩, ?_⟩, fun h => absurd hj (by omega)⟩
      unfold bestStep at hK2
      rw [br_true]
      refine ⟨fun h2 => ⟨⟨by omega, by omega⟩, by omega, ?_⟩, fun h2 => ⟨fits64 (by omega) (by omega), ?_⟩⟩
      · rw [br_false, hget]
        refine ⟨fun h3 => ⟨fits64 (by omega) (by omega), ⟨by omega, by omega⟩, by omega, ?_⟩, fun h3 => ?_⟩
        · rw [br_decide]
          refine ⟨fun h4 => ?_, fun h4 => ?_⟩
          rotate_left
          · replace h4 : ¬ worstOf (looks pots mm) pots b j + 1 < ((outUp pots mm b).set b z)[b]'(by omega) := h4
            rw [hget] at h4
            rw [if_neg (by omega)] at hK2
            exact ⟨fits64 (by omega) (by omega), hK2⟩
          replace h4 : worstOf (looks pots mm) pots b j + 1 < ((outUp pots mm b).set b z)[b]'(by omega) := h4
          rw [hget] at h4
          rw [if_pos ⟨h2, Or.inr h4⟩] at hK2
          refine ⟨fits64 (by omega) (by omega), ⟨by omega, by omega⟩, by omega, fits64 (by omega) (by omega), ?_⟩
          rw [List.set_set]
          exact hK2
        · rw [if_pos ⟨h2, Or.inl h3⟩] at hK2
          refine ⟨fits64 (by omega) (by omega), ⟨by omega, by omega⟩, by omega, fits64 (by omega) (by omega), ?_⟩
          rw [List.set_set]
          exact hK2
      · rw [if_neg (by omega)] at hK2
        exact hK2
    · intro K2 _
      dsimp only
      rw [br_decide]
      refine ⟨fun h => absurd h (by omega), fun _ => ⟨fits64 (by omega) (by omega), ?_⟩⟩
      have e : (List.range mm).foldl (bestStep (looks pots mm) pots b) (-1) = looks pots mm b := hl.symm
      rw [e, outUp_set]
      exact hK
  · intro K _
    dsimp only
    have hol := outUp_len pots mm (2 ^ pots.length - 1 + 1)
    rw [br_decide, hol]
    refine ⟨fun h => absurd h (by omega), fun _ => ?_⟩
    have e : 2 ^ pots.length - 1 + 1 = 2 ^ pots.length := by omega
    rw [e]
    have := outUp_all (mm : Int) pots
    rw [Int.toNat_natCast] at this
    rw [this]
    exact hk

theorem k31 (hG : Good Try.prog (envOf [(61, mkC [v61]), (62, mkC [v62]), (39, mkC [v39])])) : v31.Kept Try.prog 31 := by
  rintro ⟨m, pots, seen, ⟨⟩⟩ hpre k hk
  change List (List Int) at pots
  change List Int at seen
  change Int at m
  refine aspec hmix hG Try.func31 tx31 (Eq.mpr (eq31 m pots seen k) ?_)
  replace hk : k (.tup [rI (looksE m pots seen), rI (seenErr m pots seen)]) [] := hk
  obtain ⟨hs, hl⟩ := hpre
  have hp : pots.length ≤ 14 := hs.1
  unfold vc31
  rw [br_bne]
  refine ⟨⟨hp, hl⟩, fun h => ⟨⟨hp, hl⟩, ?_⟩, fun h => ⟨(se_ok h).1, h, ?_⟩⟩
  · rw [looksE, if_pos h] at hk; exact hk
  · rw [looksE, if_neg (not_not_intro h), h] at hk
    have ha := agree_lt pots m.toNat seen
    have hlen := looksAll_len m pots
    simp only [Int.toNat_natCast]
    refine ⟨⟨by omega, by omega⟩, by omega, ?_⟩
    rw [looksAll_get]
    exact hk

theorem k33 (hG : Good Try.prog (envOf [(61, mkC [v61]), (62, mkC [v62]), (39, mkC [v39]), (71, mkC [v71])])) : v33.Kept Try.prog 33 := by
  rintro ⟨m, pots, seen, ⟨⟩⟩ hpre k hk
  change List (List Int) at pots
  change List Int at seen
  change Int at m
  refine aspec hmix hG Try.func33 tx33 (Eq.mpr (eq33 m pots seen k) ?_)
  replace hk : k (.tup [rI (nextN m pots seen), rI (nextE m pots seen)]) [] := hk
  obtain ⟨hs, hl⟩ := hpre
  have hp : pots.length ≤ 14 := hs.1
  have herr : ∀ e : Int, e ≠ 0 → nextE m pots seen = e → k (.tup [rI 0, rI e]) [] := by
    intro e he h
    rw [nextN, if_pos (by rw [h]; exact he), h] at hk
    exact hk
  unfold vc33
  rw [br_bne]
  refine ⟨⟨hp, hl⟩, fun h => ⟨⟨hp, hl⟩, herr _ h (by rw [nextE, if_pos h])⟩, fun h => ⟨(se_ok h).1, h, ?_⟩⟩
  have hf := (se_ok h).1
  obtain ⟨f1, f2, f3, f4⟩ := fine_spec hf
  obtain ⟨mm, rfl⟩ := Int.eq_ofNat_of_zero_le (show 0 ≤ m by omega)
  have ha := agree_lt pots mm seen
  have hlen := looksAll_len (mm : Int) pots
  have hp8 : 2 ^ pots.length ≤ 2 ^ 8 := Nat.pow_le_pow_right (by omega) (by omega)
  have h256 : (2 : Nat) ^ 8 = 256 := by decide
  have hE : nextE (mm : Int) pots seen = if looks pots mm (agree pots mm seen) = 0 then 5 else if looks pots mm (agree pots mm seen) < 0 then 27 else 0 := by
    rw [nextE, if_neg (not_not_intro h)]; rfl
  have hget : (looksAll (mm : Int) pots)[agree pots mm seen]'(by omega) = looks pots mm (agree pots mm seen) := looksAll_get _ _ _ _
  have hN : nextN (mm : Int) pots seen = if nextE (mm : Int) pots seen ≠ 0 then 0 else (firstN pots mm (agree pots mm seen) : Int) := rfl
  simp only [Int.toNat_natCast]
  rw [hN] at hk
  obtain ⟨b, hb0⟩ : ∃ b, agree pots mm seen = b := ⟨_, rfl⟩
  simp only [hb0] at ha hE hget hk ⊢
  refine ⟨⟨by omega, by omega⟩, by omega, ?_⟩
  simp only [hget]
  rw [br_beq, br_decide]
  refine ⟨fun h2 => herr 5 (by omega) (by rw [hE, if_pos h2]), fun h2 => ⟨⟨by omega, by omega⟩, by omega, fun h3 => herr 27 (by omega) (by rw [hE, if_neg h2, if_pos h3]), fun h3 => ?_⟩⟩
  rw [if_neg h2, if_neg h3] at hE
  rw [hE, if_neg (by omega)] at hk
  have hworst : ∀ j : Nat, worstL pots (looksAll (mm : Int) pots) (b : Int) (j : Int) = worstOf (looks pots mm) pots b j := by
    intro j
    show worstOf (getL _) pots b j = _
    refine worstOf_congr pots b j (fun p hp => ?_)
    unfold getL
    rw [getD_lt _ _ (by omega)]
    exact looksAll_get _ _ _ _
  have hs := firstN_spec (pots := pots) (m := mm) (b := b) (by omega)
  refine Loop.upto (fun j => ((b : Int), (j : Int), (mm : Int), pots, looksAll (mm : Int) pots, ())) (fun i => ∀ j, j < i → decide (0 ≤ worstOf (looks pots mm) pots b j ∧ worstOf (looks pots mm) pots b j < looks pots mm b) = false) mm rfl (fun j h => by omega) ?_ ?_
  · intro i K hi hp hK
    dsimp only
    rw [br_decide, hworst, br_true]
    simp only [Int.toNat_natCast]
    have hnext : ¬ (0 ≤ worstOf (looks pots mm) pots b i ∧ worstOf (looks pots mm) pots b i < looks pots mm b) → ∀ j, j < i + 1 → decide (0 ≤ worstOf (looks pots mm) pots b j ∧ worstOf (looks pots mm) pots b j < looks pots mm b) = false := by
      intro hh j hj
      rcases Nat.lt_or_ge j i with h' | h'
      · exact hp j h'
      · obtain rfl : j = i := by omega
        exact decide_eq_false hh
    refine ⟨fun _ => ⟨⟨hf, hlen, ⟨by show (0 : Int) ≤ (b : Int); omega, by show (b : Int) < ((2 ^ pots.length : Nat) : Int); omega⟩, by show (0 : Int) ≤ (i : Int); omega, by show (i : Int) < (mm : Int); omega⟩, fun h5 => ⟨⟨by omega, by omega⟩, by omega, ?_⟩, fun h5 => ⟨fits64 (by omega) (by omega), hK (hnext (by omega))⟩⟩, fun h => absurd hi (by omega)⟩
    simp only [hget]
    rw [br_decide]
    refine ⟨fun h6 => ?_, fun h6 => ⟨fits64 (by omega) (by omega), hK (hnext (by omega))⟩⟩
    have e : firstN pots mm b = i := by
      unfold firstN
      rw [List.range_eq_range', find_range' _ mm 0 i (by omega) (by omega) (fun j _ hj => hp j hj)]
      have e2 : 0 + mm - i = (mm - (i + 1)) + 1 := by omega
      rw [e2, List.range'_succ, List.find?_cons, decide_eq_true (show 0 ≤ worstOf (looks pots mm) pots b i ∧ worstOf (looks pots mm) pots b i < looks pots mm b from ⟨h5, h6⟩)]
      rfl
    rw [e] at hk
    exact hk
  · intro K hp
    dsimp only
    rw [br_decide]
    refine ⟨fun h => absurd h (by omega), fun _ => ?_⟩
    have := hp _ hs.1
    rw [decide_eq_true hs.2] at this
    cases this

theorem k5 (hG : Good Try.prog (envOf [(15, mkC [v15]), (16, mkC [v16]), (17, mkC [v17]), (30, mkC [v30]), (31, mkC [v31]), (32, mkC [v32]), (33, mkC [v33])])) : v5.Kept Try.prog 5 := by
  rintro ⟨m, pots, seen, ⟨⟩⟩ hpre k hk
  change List (List Int) at pots
  change Int at m
  change List Int at seen
  refine aspec hmix hG Try.func5 tx5 (Eq.mpr (eq5 m pots seen k) ?_)
  replace hk : k (.bool true) [] := hk
  unfold vc5
  refine ⟨trivial, br_intro (fun h1 => ⟨trivial, br_intro (fun h2 => ⟨trivial, hk⟩) (fun h2 => ?_)⟩) (fun h1 => ⟨trivial, hk⟩)⟩
  have g := great_small (eq_of_beq h1)
  have l2 := longL_small h2
  simp only [beq_self_eq_true]
  exact ⟨⟨g, l2⟩, ⟨g, l2⟩, ⟨g, l2⟩, ⟨g, l2⟩, trivial, hk⟩
end Go.Abs.King
end

section
/- The king's functions keep their contracts: the marks that are needed and the shortest lists, by the references. -/
open Go.Proofs
set_option maxRecDepth 100000
set_option linter.unusedVariables false
namespace Go.Abs.King

theorem andNot_nat (a b : Nat) (ha : a < 9223372036854775808) (hb : b < 9223372036854775808) : ∃ c : Nat, bitsA .andNot .i64 (a : Int) (b : Int) = (c : Int) ∧ c ≤ a ∧ ∀ i, i < 64 → c.testBit i = (a.testBit i && !b.testBit i) := by
  refine ⟨(BitVec.ofInt 64 (a : Int) &&& ~~~BitVec.ofInt 64 (b : Int)).toNat, ?_, ?_, ?_⟩
  · show IntKind.i64.wrap _ = _
    refine wrap_nat _ ?_
    rw [BitVec.toNat_and]
    refine Nat.lt_of_le_of_lt Nat.and_le_left ?_
    show (BitVec.ofInt 64 (a : Int)).toNat < _
    rw [ofInt_toNat a ha]; exact ha
  · rw [BitVec.toNat_and, ofInt_toNat a ha]
    exact Nat.and_le_left
  · intro i hi
    rw [BitVec.toNat_and, ofInt_toNat a ha, Nat.testBit_and]
    congr 1
    have : (~~~BitVec.ofInt 64 (b : Int)).toNat.testBit i = (~~~BitVec.ofInt 64 (b : Int)).getLsbD i := rfl
    rw [this, BitVec.getLsbD_not]
    have : (BitVec.ofInt 64 (b : Int)).getLsbD i = b.testBit i := by
      show (BitVec.ofInt 64 (b : Int)).toNat.testBit i = _
      rw [ofInt_toNat b hb]
    rw [this]
    simp [hi]
theorem others_listed {m j : Nat} (hm : m ≤ 6) (hj : j < m) {c : Nat} (hc : ∀ i, i < 64 → c.testBit i = ((2 ^ m - 1).testBit i && !(2 ^ j).testBit i)) : listed c m = ((List.range m).filter (fun x => decide (x ≠ j))).map Int.ofNat := by
  unfold listed
  congr 1
  refine List.filter_congr (fun i hi => ?_)
  have hi := List.mem_range.1 hi
  rw [hc i (by omega), Nat.testBit_two_pow_sub_one, Nat.testBit_two_pow]
  rw [decide_eq_true hi, Bool.true_and]
  rw [Bool.eq_iff_iff, Bool.not_eq_true', decide_eq_false_iff_not, decide_eq_true_eq]
  exact ⟨fun h e => h e.symm, fun h e => h e.symm⟩

theorem k28 (hG : Good Try.prog (envOf [(23, mkC [v23]), (41, mkC [v41]), (44, mkC [v44])])) : v28.Kept Try.prog 28 := by
  rintro ⟨m, pots, ⟨⟩⟩ hpre k hk
  change List (List Int) at pots
  change Int at m
  refine aspec hmix hG Try.func28 tx28 (Eq.mpr (eq28 m pots k) ?_)
  replace hk : k (.tup [.reg 0 false, rI (checkShelf m pots)]) [.sl (.int .i64) (neededL m pots)] := hk
  have hp : pots.length ≤ 14 := hpre
  unfold vc28
  rw [br_bne]
  refine ⟨hp, fun h => ⟨hp, ?_⟩, fun h => ?_⟩
  · rw [neededL, if_pos h] at hk; exact hk
  rw [neededL, if_neg (not_not_intro h), h] at hk
  obtain ⟨f1, f2, f3, f4⟩ := fine_spec h
  obtain ⟨mm, rfl⟩ := Int.eq_ofNat_of_zero_le (show 0 ≤ m by omega)
  have hpm : 2 ^ mm ≤ 2 ^ 6 := Nat.pow_le_pow_right (by omega) (by omega)
  have h64 : (2 : Nat) ^ 6 = 64 := by decide
  have hpm1 : 1 ≤ 2 ^ mm := Nat.one_le_two_pow
  have hsm : shlA .i64 1 ((mm : Nat) : Int) = ((2 ^ mm : Nat) : Int) := one_shl _ (by omega)
  have hsm1 : ((2 ^ mm : Nat) : Int) - 1 = ((2 ^ mm - 1 : Nat) : Int) := by omega
  refine Loop.upto (fun j => ((j : Int), (mm : Int), pots, neededUp pots mm j, ())) (fun j => True) mm rfl trivial ?_ ?_
  · intro j K hj _ hK
    have hK := hK trivial
    have hul := neededUp_len pots mm j
    dsimp only
    have hsj : shlA .i64 1 ((j : Nat) : Int) = ((2 ^ j : Nat) : Int) := one_shl _ (by omega)
    have hpj : 2 ^ j ≤ 2 ^ 6 := Nat.pow_le_pow_right (by omega) (by omega)
    rw [br_decide, hsm, hsm1, hsj]
    obtain ⟨c, hc1, hc2, hc3⟩ := andNot_nat (2 ^ mm - 1) (2 ^ j) (by omega) (by omega)
    rw [hc1]
    simp only [Int.toNat_natCast]
    rw [others_listed (by omega) hj hc3]
    refine ⟨fun _ => ⟨by omega, fits64 (by omega) (by omega), by omega, ⟨⟨by show (0 : Int) ≤ (c : Int); omega, by show (c : Int) < 4611686018427387904; omega⟩, by show (0 : Int) ≤ (mm : Int); omega, by show (mm : Int) ≤ 40; omega⟩, ?_⟩, fun h => absurd hj (by omega)⟩
    obtain ⟨oth, hoth⟩ : ∃ oth, ((List.range mm).filter (fun x => decide (x ≠ j))).map Int.ofNat = oth := ⟨_, rfl⟩
    have hom : ∀ x ∈ oth, 0 ≤ x ∧ x < (mm : Int) := by
      intro x hx
      rw [← hoth] at hx
      obtain ⟨y, hy, rfl⟩ := List.mem_map.1 hx
      have := List.mem_range.1 (List.mem_filter.1 hy).1
      show (0 : Int) ≤ (y : Int) ∧ (y : Int) < (mm : Int)
      omega
    have hol : oth.length ≤ 1152921504606846976 := by
      rw [← hoth, List.length_map]
      exact Nat.le_trans (List.length_filter_le _ _) (by rw [List.length_range]; omega)
    have hq : ∀ i t : Nat, decide (apart pots mm i t = [(j : Int)]) = (tells pots [(j : Int)] i t && !tells pots oth i t) := fun i t => hoth ▸ not_any_apart hj
    rw [hoth]
    let q : Nat → Nat → Bool := fun i t => decide (apart pots mm i t = [(j : Int)])
    refine Loop.upto (fun i => ((j : Int), (List.range i).any (fun i' => (List.range i').any (q i')), (i : Int), (mm : Int), pots, neededUp pots mm j, oth, ())) (fun i => True) pots.length rfl trivial ?_ ?_
    · intro i K2 hi _ hK2
      have hK2 := hK2 trivial
      dsimp only
      rw [br_decide]
      refine ⟨fun _ => ?_, fun h => absurd hi (by omega)⟩
      rw [List.range_succ, List.any_append] at hK2
      generalize (List.range i).any (fun i' => (List.range i').any (q i')) = z at hK2 ⊢
      refine Loop.upto (fun t => ((j : Int), z || (List.range t).any (q i), (i : Int), (t : Int), (mm : Int), pots, neededUp pots mm j, oth, ())) (fun t => True) i (by simp only [List.range_zero, List.any_nil, Bool.or_false]; rfl) trivial ?_ ?_
      · intro t K3 ht _ hK3
        have hK3 := hK3 trivial
        rw [List.range_succ, List.any_append] at hK3
        simp only [List.any_cons, List.any_nil, Bool.or_false] at hK3
        rw [← Bool.or_assoc] at hK3
        dsimp only
        have hpre1 : v44.pre ((mm : Int), pots, [(j : Int)], (i : Int), (t : Int), ()) := ⟨h, by show [(j : Int)].length ≤ 1152921504606846976; simp, fun x hx => by
          have hx : x = (j : Int) := List.mem_singleton.1 hx
          rw [hx]; show (0 : Int) ≤ (j : Int) ∧ (j : Int) < (mm : Int); omega, ⟨by show (0 : Int) ≤ (i : Int); omega, by show (i : Int) < (pots.length : Int); omega⟩, ⟨by show (0 : Int) ≤ (t : Int); omega, by show (t : Int) < (pots.length : Int); omega⟩⟩
        have hpre2 : v44.pre ((mm : Int), pots, oth, (i : Int), (t : Int), ()) := ⟨h, hol, hom, ⟨by show (0 : Int) ≤ (i : Int); omega, by show (i : Int) < (pots.length : Int); omega⟩, ⟨by show (0 : Int) ≤ (t : Int); omega, by show (t : Int) < (pots.length : Int); omega⟩⟩
        have hqq : q i t = (tells pots [(j : Int)] i t && !tells pots oth i t) := hq i t
        rw [hqq] at hK3
        generalize (z || (List.range t).any (q i)) = y at hK3 ⊢
        rw [br_decide]
        refine ⟨fun _ => ?_, fun h => absurd ht (by omega)⟩
        rw [br_bf]
        refine ⟨fun h1 => ⟨hpre1, ?_⟩, fun h1 => ⟨fits64 (by omega) (by omega), ?_⟩⟩
        · rw [h1, Bool.false_or] at hK3
          rw [br_bt]
          refine ⟨fun h2 => ⟨hpre2, fits64 (by omega) (by omega), ?_⟩, fun h2 => ⟨fits64 (by omega) (by omega), ?_⟩⟩
          · rw [h2, Bool.true_and] at hK3; exact hK3
          · rw [h2, Bool.false_and] at hK3; exact hK3
        · rw [h1, Bool.true_or] at hK3; exact hK3
      · intro K3 _
        dsimp only
        rw [br_decide]
        refine ⟨fun h => absurd h (by omega), fun _ => ⟨fits64 (by omega) (by omega), ?_⟩⟩
        simp only [List.any_cons, List.any_nil, Bool.or_false] at hK2
        exact hK2
    · intro K2 _
      dsimp only
      rw [br_decide]
      refine ⟨fun h => absurd h (by omega), fun _ => ?_⟩
      rw [neededUp_succ] at hK
      refine br_intro (fun h1 => ⟨by simp [big]; omega, fits64 (by omega) (by omega), ?_⟩) (fun h1 => ⟨fits64 (by omega) (by omega), ?_⟩)
      · have : isNeeded pots mm j = true := h1
        rw [if_pos this] at hK; exact hK
      · have : isNeeded pots mm j = false := h1
        rw [if_neg (by rw [this]; simp), List.append_nil] at hK; exact hK
  · intro K _
    dsimp only
    rw [br_decide]
    exact ⟨fun h => absurd h (by omega), fun _ => hk⟩

/-! ### the shortest lists, by bits -/

theorem fewUp_succ (pots : List (List Int)) (m b : Nat) : fewUp pots m (b + 1) = fewStep pots m (fewUp pots m b) b := by
  unfold fewUp
  rw [List.range_succ, List.foldl_append]; rfl
theorem cnt_le (b n : Nat) : cnt b n ≤ n := listed_len b n
/-- What is found among the first sets of marks. -/
theorem fewUp_spec (pots : List (List Int)) (m : Nat) : ∀ b, (fewUp pots m b).1 ≤ m + 1 ∧ (∀ c, c < b → tellBits pots m c = true → (fewUp pots m b).1 ≤ cnt c m) ∧ ((fewUp pots m b).1 ≤ m → ∃ c, c < b ∧ tellBits pots m c = true ∧ cnt c m = (fewUp pots m b).1) ∧ (fewUp pots m b).2 = ((List.range b).filter (fun c => tellBits pots m c && decide (cnt c m = (fewUp pots m b).1))).map (fun c => listed c m)
  | 0 => ⟨Nat.le_refl _, fun c h => by omega, fun h => by have : (fewUp pots m 0).1 = m + 1 := rfl; omega, rfl⟩
  | b + 1 => by
    obtain ⟨h1, h2, h3, h4⟩ := fewUp_spec pots m b
    rw [fewUp_succ]
    generalize fewUp pots m b = s at h1 h2 h3 h4
    have hcl := cnt_le b m
    unfold fewStep
    cases ht : tellBits pots m b with
    | false =>
      simp only [Bool.not_false, Bool.true_or, if_true]
      refine ⟨h1, fun c hc htc => ?_, fun h => ?_, ?_⟩
      · rcases Nat.lt_or_ge c b with h' | h'
        · exact h2 c h' htc
        · obtain rfl : c = b := by omega
          rw [ht] at htc; cases htc
      · obtain ⟨c, hc, h5⟩ := h3 h; exact ⟨c, by omega, h5⟩
      · rw [List.range_succ, List.filter_append, List.map_append, ← h4]
        simp [ht]
    | true =>
      simp only [Bool.not_true, Bool.false_or]
      by_cases hlt : s.1 < cnt b m
      · simp only [decide_eq_true hlt, if_true]
        refine ⟨h1, fun c hc htc => ?_, fun h => ?_, ?_⟩
        · rcases Nat.lt_or_ge c b with h' | h'
          · exact h2 c h' htc
          · obtain rfl : c = b := by omega
            omega
        · obtain ⟨c, hc, h5⟩ := h3 h; exact ⟨c, by omega, h5⟩
        · rw [List.range_succ, List.filter_append, List.map_append, ← h4]
          have : ¬ cnt b m = s.1 := by omega
          simp [this]
      · simp only [decide_eq_false hlt, Bool.false_eq_true, if_false]
        by_cases hgt : cnt b m < s.1
        · rw [if_pos hgt]
          refine ⟨by show cnt b m ≤ m + 1; omega, fun c hc htc => ?_, fun h => ⟨b, by omega, ht, rfl⟩, ?_⟩
          · show cnt b m ≤ cnt c m
            rcases Nat.lt_or_ge c b with h' | h'
            · have := h2 c h' htc; omega
            · obtain rfl : c = b := by omega
              exact Nat.le_refl _
          · show [listed b m] = _
            rw [List.range_succ, List.filter_append, List.map_append]
            have : (List.range b).filter (fun c => tellBits pots m c && decide (cnt c m = cnt b m)) = [] := by
              refine List.filter_eq_nil_iff.2 (fun c hc hh => ?_)
              simp only [Bool.and_eq_true, decide_eq_true_eq] at hh
              have := h2 c (List.mem_range.1 hc) hh.1
              omega
            simp only [this]
            simp [ht]
        · rw [if_neg hgt]
          have heq : cnt b m = s.1 := by omega
          refine ⟨h1, fun c hc htc => ?_, fun h => ⟨b, by omega, ht, heq⟩, ?_⟩
          · rcases Nat.lt_or_ge c b with h' | h'
            · exact h2 c h' htc
            · obtain rfl : c = b := by omega
              exact Nat.le_of_eq heq.symm
          · show s.2 ++ [listed b m] = _
            rw [List.range_succ, List.filter_append, List.map_append, ← h4]
            simp [ht, heq]

/-- The lists that tell, by bits and by lists. -/
theorem few_bits {m : Int} {pots : List (List Int)} (h : checkShelf m pots = 0) : (m.toNat < (fewUp pots m.toNat (2 ^ m.toNat)).1 → fewE m pots = 27 ∧ fewL m pots = []) ∧
    ((fewUp pots m.toNat (2 ^ m.toNat)).1 ≤ m.toNat → fewE m pots = 0 ∧ ∀ x, x ∈ (fewUp pots m.toNat (2 ^ m.toNat)).2 ↔ x ∈ fewL m pots) := by
  obtain ⟨f1, f2, f3, f4⟩ := fine_spec h
  obtain ⟨mm, rfl⟩ := Int.eq_ofNat_of_zero_le (show 0 ≤ m by omega)
  rw [Int.toNat_natCast]
  obtain ⟨h1, h2, h3, h4⟩ := fewUp_spec pots mm (2 ^ mm)
  have hex : ∀ x n, x ∈ listsN pots mm n [] → ∃ c, c < 2 ^ mm ∧ tellBits pots mm c = true ∧ cnt c mm = n ∧ x = listed c mm := by
    intro x n hx
    obtain ⟨a, b, c⟩ := listsN_iff.1 hx
    refine ⟨bitsL x mm, bitsL_lt _ _, ?_, ?_, (listed_bitsL a).symm⟩
    · unfold tellBits; rw [listed_bitsL a, c]; rfl
    · unfold cnt; rw [listed_bitsL a]; exact b
  have hin : ∀ c, tellBits pots mm c = true → listed c mm ∈ listsN pots mm (cnt c mm) [] := by
    intro c hc
    refine listsN_iff.2 ⟨listed_isList c mm, rfl, ?_⟩
    unfold tellBits at hc
    cases hh : hardB pots (listed c mm) with
    | true => rw [hh] at hc; cases hc
    | false => rfl
  generalize fewUp pots mm (2 ^ mm) = s at h1 h2 h3 h4
  rcases isF_err h with ⟨e1, e2, e3⟩ | ⟨n, g1, g2, g3, g4, g5⟩
  · refine ⟨fun _ => ⟨e1, e2⟩, fun hs => ?_⟩
    exfalso
    obtain ⟨c, hc, ht, hcn⟩ := h3 hs
    have hx := hin c ht
    unfold fewK at e3
    have := List.find?_eq_none.1 e3 (cnt c mm) (List.mem_range.2 (by rw [Int.toNat_natCast]; have := cnt_le c mm; omega))
    exact this (decide_eq_true (List.length_pos_of_mem hx))
  · rw [Int.toNat_natCast] at g1 g4
    have hmin : n = s.1 := by
      have hle : s.1 ≤ n := by
        rw [g4] at g5
        obtain ⟨x, hx⟩ := List.exists_mem_of_length_pos g5
        obtain ⟨c, c1, c2, c3, _⟩ := hex x n hx
        have := h2 c c1 c2
        omega
      obtain ⟨c, hc, ht, hcn⟩ := h3 (by omega)
      have hx := hin c ht
      rcases Nat.lt_or_ge s.1 n with hlt | hge
      · exfalso
        unfold fewK at g3
        rw [Int.toNat_natCast, List.range_eq_range'] at g3
        obtain ⟨_, a, b, hab, hnot⟩ := List.find?_eq_some_iff_append.1 g3
        have hmem : s.1 ∈ a := by
          have hs2 : s.1 ∈ List.range' 0 (mm + 1) := List.mem_range'_1.2 ⟨by omega, by omega⟩
          rw [hab] at hs2
          rcases List.mem_append.1 hs2 with h' | h'
          · exact h'
          · exfalso
            have hp : (a ++ n :: b).Pairwise (· < ·) := hab ▸ List.pairwise_lt_range' ..
            have hp2 := (List.pairwise_append.1 hp).2.1
            rw [List.pairwise_cons] at hp2
            rcases List.mem_cons.1 h' with e | h'
            · omega
            · have := hp2.1 _ h'; omega
        have := hnot _ hmem
        rw [← hcn] at this
        simp only [Bool.not_eq_true', decide_eq_false_iff_not] at this
        exact this (List.length_pos_of_mem hx)
      · omega
    refine ⟨fun hs => by omega, fun _ => ⟨g2, fun x => ?_⟩⟩
    rw [h4, g4, hmin]
    constructor
    · intro hx
      obtain ⟨c, hc, rfl⟩ := List.mem_map.1 hx
      obtain ⟨_, hc2⟩ := List.mem_filter.1 hc
      simp only [Bool.and_eq_true, decide_eq_true_eq] at hc2
      have := hin c hc2.1
      rw [hc2.2] at this
      exact this
    · intro hx
      obtain ⟨c, c1, c2, c3, rfl⟩ := hex x s.1 hx
      refine List.mem_map.2 ⟨c, List.mem_filter.2 ⟨List.mem_range.2 c1, ?_⟩, rfl⟩
      simp [c2, c3]
theorem fewL_sorted (m : Int) (pots : List (List Int)) : (fewL m pots).Pairwise (fun a b => beforeL a b = true) := by
  unfold fewL
  split
  · exact List.Pairwise.nil
  · split
    · exact listsN_sorted _ _
    · exact List.Pairwise.nil
theorem fewUp_nodup (pots : List (List Int)) (m : Nat) : (fewUp pots m (2 ^ m)).2.Nodup := by
  obtain ⟨_, _, _, h4⟩ := fewUp_spec pots m (2 ^ m)
  rw [h4]
  unfold List.Nodup
  rw [List.pairwise_map]
  refine List.Pairwise.imp_of_mem (R := (· < ·)) ?_ (List.Pairwise.filter _ (List.pairwise_lt_range (n := 2 ^ m)))
  intro a b ha hb hlt he
  have ha := List.mem_range.1 (List.mem_filter.1 ha).1
  have hb := List.mem_range.1 (List.mem_filter.1 hb).1
  have := listed_inj ha hb he
  omega
end Go.Abs.King
end

section
/- The king's functions keep their contracts: the shortest lists, by the reference. -/
open Go.Proofs
set_option maxRecDepth 100000
set_option linter.unusedVariables false
namespace Go.Abs.King

theorem getD_set {α : Type} (l : List α) (i j : Nat) (v d : α) (h : i < l.length) : (l.set i v).getD j d = if i = j then v else l.getD j d := by
  rw [List.getD_eq_getElem?_getD, List.getElem?_set]
  by_cases e : i = j
  · subst e; simp [h]
  · rw [if_neg e, if_neg e, List.getD_eq_getElem?_getD]
theorem getD_get {α : Type} (l : List α) (i : Nat) (d : α) (h : i < l.length) : l[i] = l.getD i d := by
  rw [List.getD_eq_getElem?_getD, List.getElem?_eq_getElem h]; rfl

/-- In order up to a place, but for one that is on its way down. -/
structure OnWay (out0 out : List (List Int)) (i k : Nat) : Prop where
  perm : out.Perm out0
  le : k ≤ i
  lt : i < out.length
  rest : ∀ a b, a < b → b ≤ i → a ≠ k → b ≠ k → beforeL (out.getD a []) (out.getD b []) = true
  up : ∀ b, k < b → b ≤ i → beforeL (out.getD k []) (out.getD b []) = true

theorem onWay_swap {out0 out : List (List Int)} {i k : Nat} (h : OnWay out0 out i (k + 1)) (hb : beforeL (out.getD (k + 1) []) (out.getD k []) = true) : OnWay out0 ((out.set (k + 1) (out.getD k [])).set k (out.getD (k + 1) [])) i k := by
  have h1 := h.le
  have h2 := h.lt
  have hg : ∀ a, ((out.set (k + 1) (out.getD k [])).set k (out.getD (k + 1) [])).getD a [] = if k = a then out.getD (k + 1) [] else if k + 1 = a then out.getD k [] else out.getD a [] := by
    intro a
    rw [getD_set _ _ _ _ _ (by rw [List.length_set]; omega), getD_set _ _ _ _ _ (by omega)]
  refine ⟨?_, by omega, by simpa using h2, fun a b hab hbi ha hb2 => ?_, fun b hkb hbi => ?_⟩
  · refine List.Perm.trans ?_ h.perm
    have := @List.set_set_perm _ out (k + 1) k (by omega) (by omega)
    rw [getD_get out k [] (by omega), getD_get out (k + 1) [] (by omega)] at this
    exact this
  · rw [hg, hg, if_neg (show ¬ k = a by omega), if_neg (show ¬ k = b by omega)]
    by_cases e1 : k + 1 = a
    · rw [if_pos e1, if_neg (by omega)]
      exact h.rest k b (by omega) hbi (by omega) (by omega)
    · rw [if_neg e1]
      by_cases e2 : k + 1 = b
      · rw [if_pos e2]
        exact h.rest a k (by omega) (by omega) (by omega) (by omega)
      · rw [if_neg e2]
        exact h.rest a b hab hbi (by omega) (by omega)
  · rw [hg, hg, if_pos rfl, if_neg (by omega)]
    by_cases e : k + 1 = b
    · rw [if_pos e]; exact hb
    · rw [if_neg e]; exact h.up b (by omega) hbi

theorem onWay_end {out0 out : List (List Int)} {i k : Nat} (h : OnWay out0 out i k) (hd : ∀ a b, a < out.length → b < out.length → a ≠ b → out.getD a [] ≠ out.getD b []) (hl : ∀ a b, a < out.length → b < out.length → (out.getD a []).length = (out.getD b []).length) (hk : k = 0 ∨ beforeL (out.getD k []) (out.getD (k - 1) []) = false) : (out.take (i + 1)).Pairwise (fun a b => beforeL a b = true) := by
  have h2 := h.lt
  have h1 := h.le
  rw [List.pairwise_iff_getElem]
  intro a b ha hb hab
  rw [List.length_take] at ha hb
  rw [List.getElem_take, List.getElem_take, getD_get out a [] (by omega), getD_get out b [] (by omega)]
  by_cases e1 : a = k
  · subst e1; exact h.up b hab (by omega)
  · by_cases e2 : b = k
    · subst e2
      rcases hk with hk | hk
      · omega
      · have h3 := before_tri _ _ (hl b (b - 1) (by omega) (by omega)) (hd b (b - 1) (by omega) (by omega) (by omega)) hk
        by_cases e3 : a = b - 1
        · rw [e3]; exact h3
        · exact before_tr _ _ _ (h.rest a (b - 1) (by omega) (by omega) e1 (by omega)) h3
    · exact h.rest a b hab (by omega) e1 e2

theorem onWay_start {out0 out : List (List Int)} {i : Nat} (hp : out.Perm out0) (hi : i < out.length) (hs : (out.take i).Pairwise (fun a b => beforeL a b = true)) : OnWay out0 out i i := by
  refine ⟨hp, Nat.le_refl _, hi, fun a b hab hbi ha hb => ?_, fun b h1 h2 => by omega⟩
  rw [List.pairwise_iff_getElem] at hs
  have := hs a b (by rw [List.length_take]; omega) (by rw [List.length_take]; omega) hab
  rw [List.getElem_take, List.getElem_take, getD_get out a [] (by omega), getD_get out b [] (by omega)] at this
  exact this

theorem k26 (hG : Good Try.prog (envOf [(23, mkC [v23]), (41, mkC [v41]), (58, mkC [v58]), (67, mkC [v67])])) : v26.Kept Try.prog 26 := by
  rintro ⟨m, pots, ⟨⟩⟩ hpre k hk
  change List (List Int) at pots
  change Int at m
  refine aspec hmix hG Try.func26 tx26 (Eq.mpr (eq26 m pots k) ?_)
  replace hk : k (.tup [.reg 0 false, rI (fewE m pots)]) [.sl (.slice (.int .i64)) (fewL m pots)] := hk
  have hp : pots.length ≤ 14 := hpre.1
  unfold vc26
  rw [br_bne]
  refine ⟨hp, fun h => ⟨hp, ?_⟩, fun h => ?_⟩
  · rw [fewE, fewL, if_pos h, if_pos h] at hk; exact hk
  obtain ⟨hb1, hb2⟩ := few_bits h
  obtain ⟨f1, f2, f3, f4⟩ := fine_spec h
  obtain ⟨mm, rfl⟩ := Int.eq_ofNat_of_zero_le (show 0 ≤ m by omega)
  rw [Int.toNat_natCast] at hb1 hb2
  have hpm : 2 ^ mm ≤ 2 ^ 6 := Nat.pow_le_pow_right (by omega) (by omega)
  have h64 : (2 : Nat) ^ 6 = 64 := by decide
  have hsm : shlA .i64 1 ((mm : Nat) : Int) = ((2 ^ mm : Nat) : Int) := one_shl _ (by omega)
  refine ⟨fits64 (by omega) (by omega), ?_⟩
  refine Loop.upto (fun i => (((fewUp pots mm i).1 : Int), (i : Int), (mm : Int), pots, (fewUp pots mm i).2, ())) (fun i => True) (2 ^ mm) rfl trivial ?_ ?_
  · intro i K hi _ hK
    have hK := hK trivial
    dsimp only
    rw [br_decide, hsm]
    obtain ⟨s1, _, _, s4⟩ := fewUp_spec pots mm i
    have hlen : (fewUp pots mm i).2.length ≤ i := by
      rw [s4, List.length_map]
      exact Nat.le_trans (List.length_filter_le _ _) (by simp)
    rw [fewUp_succ] at hK
    generalize fewUp pots mm i = s at s1 hlen hK ⊢
    have hll : (listed i mm).length = cnt i mm := rfl
    have hcl := cnt_le i mm
    simp only [Int.toNat_natCast]
    refine ⟨by omega, fun _ => ⟨⟨⟨by show (0 : Int) ≤ (i : Int); omega, by show (i : Int) < 4611686018427387904; omega⟩, by show (0 : Int) ≤ (mm : Int); omega, by show (mm : Int) ≤ 40; omega⟩, ⟨h, by show (listed i mm).length ≤ 1152921504606846976; omega, fun x hx => ?_⟩, ?_⟩, fun h => absurd hi (by omega)⟩
    · obtain ⟨a, rfl, ha, _⟩ := mem_listed hx
      show (0 : Int) ≤ (a : Int) ∧ (a : Int) < (mm : Int)
      omega
    unfold fewStep tellBits at hK
    rw [br_bf, br_decide, br_decide]
    refine ⟨fun h1 => ⟨fun h2 => ⟨fits64 (by omega) (by omega), ?_⟩, fun h2 => ⟨fun h3 => ⟨by simp [big], fits64 (by omega) (by omega), ?_⟩, fun h3 => ⟨by simp [big]; omega, fits64 (by omega) (by omega), ?_⟩⟩⟩, fun h1 => ⟨fits64 (by omega) (by omega), ?_⟩⟩
    · rw [h1] at hK
      simp only [Bool.not_false, Bool.not_true, Bool.false_or, decide_eq_true (show s.1 < cnt i mm by omega), if_true] at hK
      exact hK
    · rw [h1] at hK
      simp only [Bool.not_false, Bool.not_true, Bool.false_or, decide_eq_false (show ¬ s.1 < cnt i mm by omega), Bool.false_eq_true, if_false, if_pos (show cnt i mm < s.1 by omega)] at hK
      exact hK
    · rw [h1] at hK
      simp only [Bool.not_false, Bool.not_true, Bool.false_or, decide_eq_false (show ¬ s.1 < cnt i mm by omega), Bool.false_eq_true, if_false, if_neg (show ¬ cnt i mm < s.1 by omega)] at hK
      exact hK
    · rw [h1] at hK
      simp only [Bool.not_true, Bool.not_false, Bool.true_or, if_true] at hK
      exact hK
  intro K _
  dsimp only
  rw [br_decide, hsm]
  refine ⟨by omega, fun h => absurd h (by omega), fun _ => ?_⟩
  obtain ⟨s1, _, _, s4⟩ := fewUp_spec pots mm (2 ^ mm)
  have hnd := fewUp_nodup pots mm
  have hlen : (fewUp pots mm (2 ^ mm)).2.length ≤ 64 := by
    rw [s4, List.length_map]
    exact Nat.le_trans (List.length_filter_le _ _) (by rw [List.length_range]; omega)
  have hel : ∀ x ∈ (fewUp pots mm (2 ^ mm)).2, x.length = (fewUp pots mm (2 ^ mm)).1 := by
    intro x hx
    rw [s4] at hx
    obtain ⟨c, hc, rfl⟩ := List.mem_map.1 hx
    have := (List.mem_filter.1 hc).2
    simp only [Bool.and_eq_true, decide_eq_true_eq] at this
    exact this.2
  generalize fewUp pots mm (2 ^ mm) = s at s1 hnd hlen hel hb1 hb2
  rw [br_decide]
  refine ⟨fun h1 => ?_, fun h1 => ?_⟩
  · obtain ⟨e1, e2⟩ := hb1 (by omega)
    rw [e1, e2] at hk; exact hk
  obtain ⟨e1, e2⟩ := hb2 (by omega)
  rw [e1] at hk
  have hfin : ∀ out : List (List Int), out.Perm s.2 → out.Pairwise (fun a b => beforeL a b = true) → out = fewL (mm : Int) pots := fun out hp hs => sorted_ext (fun a b => beforeL a b = true) before_irr before_tr out _ hs (fewL_sorted _ _) (fun x => (hp.mem_iff).trans (e2 x))
  refine Loop.intro (fun x => ∃ (i : Nat) (out : List (List Int)), x = ((i : Int), out, ()) ∧ 1 ≤ i ∧ out.Perm s.2 ∧ (out.take i).Pairwise (fun a b => beforeL a b = true)) (fun x => 65 - x.1.toNat) ?_ ⟨1, s.2, rfl, Nat.le_refl _, List.Perm.refl _, ?_⟩
  rotate_left
  · rw [List.pairwise_iff_getElem]
    intro a b ha hb hab
    rw [List.length_take] at ha hb
    omega
  rintro x K5 ⟨i, out, rfl, h1i, hperm, hsort⟩ hK5
  dsimp only
  have hol := hperm.length_eq
  have hond := (hperm.nodup_iff).2 hnd
  rw [br_decide]
  refine ⟨fun hi => ?_, fun hi => ?_⟩
  rotate_left
  · rw [List.take_of_length_le (by omega)] at hsort
    rw [hfin out hperm hsort]
    exact hk
  have hi : i < out.length := by omega
  refine Loop.intro (fun x => ∃ (c : Nat) (o : List (List Int)), x = ((i : Int), (c : Int), o, ()) ∧ OnWay s.2 o i c) (fun x => x.2.1.toNat) ?_ ⟨i, out, rfl, onWay_start hperm hi hsort⟩
  rintro x K7 ⟨c, o, rfl, hw⟩ hK7
  dsimp only
  have hw1 := hw.le
  have hw2 := hw.lt
  have hpl := hw.perm.length_eq
  have hnd2 := (hw.perm.nodup_iff).2 hnd
  have hd : ∀ a b, a < o.length → b < o.length → a ≠ b → o.getD a [] ≠ o.getD b [] := by
    intro a b ha hb hab e
    rw [← getD_get o a [] ha, ← getD_get o b [] hb] at e
    unfold List.Nodup at hnd2
    rw [List.pairwise_iff_getElem] at hnd2
    rcases Nat.lt_or_ge a b with h' | h'
    · exact hnd2 a b ha hb h' e
    · exact hnd2 b a hb ha (by omega) e.symm
  have hle : ∀ a, a < o.length → (o.getD a []).length = s.1 := by
    intro a ha
    rw [← getD_get o a [] ha]
    exact hel _ ((hw.perm.mem_iff).1 (List.getElem_mem ha))
  have hll : ∀ a b, a < o.length → b < o.length → (o.getD a []).length = (o.getD b []).length := fun a b ha hb => by rw [hle a ha, hle b hb]
  have hnext : (c = 0 ∨ beforeL (o.getD c []) (o.getD (c - 1) []) = false) → K5 ((i : Int) + 1, o, ()) := by
    intro hc
    refine hK5 _ ⟨i + 1, o, rfl, by omega, hw.perm, onWay_end hw hd hll hc⟩ ?_
    show 65 - ((i : Int) + 1).toNat < 65 - (i : Int).toNat
    omega
  rw [br_bt]
  refine ⟨fun hc => ?_, fun hc => ⟨fits64 (by omega) (by omega), hnext (Or.inl (by have := of_decide_eq_false hc; omega))⟩⟩
  have hc := of_decide_eq_true hc
  obtain ⟨c', rfl⟩ : ∃ c', c = c' + 1 := ⟨c - 1, by omega⟩
  have e1 : ((c' + 1 : Nat) : Int) - 1 = (c' : Int) := by omega
  rw [e1]
  simp only [Int.toNat_natCast]
  have l1 : (o[c' + 1]'(by omega)).length ≤ 1152921504606846976 := by rw [getD_get o (c' + 1) [] (by omega), hle _ (by omega)]; omega
  have l2 : (o[c']'(by omega)).length ≤ 1152921504606846976 := by rw [getD_get o c' [] (by omega), hle _ (by omega)]; omega
  refine ⟨⟨by omega, by omega⟩, by omega, fits64 (by omega) (by omega), ⟨by omega, by omega⟩, by omega, ⟨l1, l2⟩, br_intro (fun hb => ?_) (fun hb => ⟨fits64 (by omega) (by omega), ?_⟩)⟩
  · refine ⟨fits64 (by omega) (by omega), fits64 (by omega) (by omega), ⟨by omega, by omega⟩, by omega, ⟨by omega, by omega⟩, by omega, ⟨by omega, by omega⟩, by omega, ⟨by omega, by rw [List.length_set]; omega⟩, by rw [List.length_set]; omega, fits64 (by omega) (by omega), ?_⟩
    have hb : beforeL (o[c' + 1]'(by omega)) (o[c']'(by omega)) = true := hb
    rw [getD_get o (c' + 1) [] (by omega), getD_get o c' [] (by omega)] at hb
    have := hK7 _ ⟨c', _, rfl, onWay_swap hw hb⟩ (by show (c' : Int).toNat < ((c' + 1 : Nat) : Int).toNat; omega)
    rw [← getD_get o (c' + 1) [] (by omega), ← getD_get o c' [] (by omega)] at this
    exact this
  · have hb : beforeL (o[c' + 1]'(by omega)) (o[c']'(by omega)) = false := hb
    rw [getD_get o (c' + 1) [] (by omega), getD_get o c' [] (by omega)] at hb
    exact hnext (Or.inr hb)

theorem k4 (hG : Good Try.prog (envOf [(15, mkC [v15]), (17, mkC [v17]), (25, mkC [v25]), (26, mkC [v26]), (27, mkC [v27]), (28, mkC [v28]), (24, mkC [v24]), (29, mkC [v29])])) : v4.Kept Try.prog 4 := by
  rintro ⟨m, pots, ⟨⟩⟩ hpre k hk
  change List (List Int) at pots
  change Int at m
  refine aspec hmix hG Try.func4 tx4 (Eq.mpr (eq4 m pots k) ?_)
  replace hk : k (.bool true) [] := hk
  unfold vc4
  refine ⟨trivial, br_intro (fun h1 => ⟨trivial, hk⟩) (fun h1 => ?_)⟩
  have g := great_small h1
  have hfl : (fewL m pots).length ≤ 1152921504606846976 ∧ ∀ p ∈ fewL m pots, p.length ≤ 1152921504606846976 := by
    by_cases h : checkShelf m pots = 0
    · obtain ⟨f1, f2, f3, f4⟩ := fine_spec h
      rcases isF_err h with ⟨_, e, _⟩ | ⟨n, n1, _, n3, n4, _⟩
      · rw [e]; simp
      · have hcb := listsN_cB pots m.toNat n []
        have h20 := cB_small n (by omega) m.toNat (by omega)
        have hn0 : nextOf [] = 0 := rfl
        rw [hn0, ← n4, Nat.sub_zero] at hcb
        refine ⟨by omega, fun p hp => ?_⟩
        rw [(few_spec h n3 p hp).2.1]; omega
    · unfold fewL
      rw [if_pos h]; simp
  have hnl : (neededL m pots).length ≤ 1152921504606846976 := by
    by_cases h : checkShelf m pots = 0
    · obtain ⟨f1, f2, f3, f4⟩ := fine_spec h
      have : neededL m pots = neededUp pots m.toNat m.toNat := by unfold neededL; rw [if_neg (not_not_intro h)]; rfl
      rw [this]
      have := neededUp_len pots m.toNat m.toNat
      omega
    · unfold neededL
      rw [if_pos h]; simp
  have e1 : eqLL (fewL m pots) (fewL m pots) = true := decide_eq_true rfl
  have e2 : eqL (neededL m pots) (neededL m pots) = true := decide_eq_true rfl
  rw [e1, e2]
  simp only [beq_self_eq_true]
  exact ⟨g, g, g, g.1, ⟨⟨hfl.1, hfl.1⟩, hfl.2, hfl.2⟩, ⟨hnl, hnl⟩, trivial, hk⟩
end Go.Abs.King
end

section
/- Conditions and their equations, printed by a program: sixth part. -/
open Go.Proofs
set_option maxRecDepth 100000
set_option linter.unusedVariables false
namespace Go.Abs.King
def vc7 (m : Int) (pots : List (List Int)) (bits : Int) (k : AVal → List Cont → Prop) : Prop :=
  (Go.Abs.King.v40.p (m, (pots, ()))) ∧
  br ((Bool.not (Go.Abs.King.fineB m pots)))
   ((Go.Abs.King.v17.p ()) ∧
   (k (Go.Abs.AVal.bool Bool.true) []))
   ((Go.Abs.fitsK Go.IntKind.i64 bits) ∧
   (Go.Abs.King.v41.p (bits, (m, ()))) ∧
   (Go.Abs.King.v18.p (m, (pots, ((Go.Abs.King.listed (Int.toNat bits) (Int.toNat m)), ())))) ∧
   (Go.Abs.King.v42.p (m, (pots, ()))) ∧
   (Go.Abs.King.v27.p (m, (pots, ()))) ∧
   br ((((Go.Abs.King.checkShelf m pots) != (0 : Int)) == Bool.false))
    ((Go.Abs.King.v43.p ((Go.Abs.King.neededL m pots), (m, ()))) ∧
    br (((Bool.not (Go.Abs.King.isList (Go.Abs.King.neededL m pots) m)) == Bool.false))
     (br ((((Go.Abs.King.hardN m pots (Go.Abs.King.listed (Int.toNat bits) (Int.toNat m))) != (0 : Int)) == Bool.true))
      (br ((((Go.Abs.King.hardN m pots (Go.Abs.King.listed (Int.toNat bits) (Int.toNat m))) != (5 : Int)) == Bool.false))
       (br (((Bool.not (Go.Abs.King.isF m pots)) == Bool.true))
        (br (((Go.Abs.King.hardN m pots (Go.Abs.King.listed (Int.toNat bits) (Int.toNat m))) != (0 : Int)))
         ((k (Go.Abs.AVal.bool Bool.false) []))
         (br (((Go.Abs.King.hardN m pots (Go.Abs.King.listed (Int.toNat bits) (Int.toNat m))) == (0 : Int)))
          (br (((decide ((Go.Abs.King.hardX m pots (Go.Abs.King.listed (Int.toNat bits) (Int.toNat m))) ≥ (0 : Int))) == Bool.true))
           (br (((decide ((Go.Abs.King.hardY m pots (Go.Abs.King.listed (Int.toNat bits) (Int.toNat m))) > (Go.Abs.King.hardX m pots (Go.Abs.King.listed (Int.toNat bits) (Int.toNat m))))) == Bool.true))
            (br (((decide ((Go.Abs.King.hardY m pots (Go.Abs.King.listed (Int.toNat bits) (Int.toNat m))) < (((List.length pots) : Nat) : Int))) == Bool.true))
             ((Go.Abs.King.v44.p (m, (pots, ((Go.Abs.King.listed (Int.toNat bits) (Int.toNat m)), ((Go.Abs.King.hardX m pots (Go.Abs.King.listed (Int.toNat bits) (Int.toNat m))), ((Go.Abs.King.hardY m pots (Go.Abs.King.listed (Int.toNat bits) (Int.toNat m))), ())))))) ∧
             br (((Bool.not (Go.Abs.King.tells pots (Go.Abs.King.listed (Int.toNat bits) (Int.toNat m)) (Go.Abs.King.hardX m pots (Go.Abs.King.listed (Int.toNat bits) (Int.toNat m))) (Go.Abs.King.hardY m pots (Go.Abs.King.listed (Int.toNat bits) (Int.toNat m))))) == Bool.true))
              ((Go.Abs.King.v17.p ()) ∧
              (k (Go.Abs.AVal.bool Bool.true) []))
              ((k (Go.Abs.AVal.bool Bool.false) [])))
             ((k (Go.Abs.AVal.bool Bool.false) [])))
            ((k (Go.Abs.AVal.bool Bool.false) [])))
           ((k (Go.Abs.AVal.bool Bool.false) [])))
          ((((0 : Int) ≤ (0 : Int)) ∧ ((Int.toNat (0 : Int)) < (List.length (Go.Abs.King.fewL m pots)))) ∧
          ∃ h4 : ((Int.toNat (0 : Int)) < (List.length (Go.Abs.King.fewL m pots))),
          Go.Abs.Loop (σ := (Int × (Bool × (Int × ((List Int) × ((List (List Int)) × ((List Int) × Unit))))))) (fun K5 x5 =>
            br ((decide (x5.2.2.1 < (((List.length x5.2.2.2.2.1) : Nat) : Int))))
             (br ((x5.2.1 == Bool.false))
              ((((0 : Int) ≤ x5.2.2.1) ∧ ((Int.toNat x5.2.2.1) < (List.length x5.2.2.2.2.1))) ∧
              ∃ h7 : ((Int.toNat x5.2.2.1) < (List.length x5.2.2.2.2.1)),
              (Go.Abs.King.v24.p ((x5.2.2.2.2.1[(Int.toNat x5.2.2.1)]'h7), (x5.2.2.2.1, ()))) ∧
              (Go.Abs.fitsK Go.IntKind.i64 (x5.2.2.1 + (1 : Int))) ∧
              (K5 (x5.1, ((Go.Abs.King.eqL (x5.2.2.2.2.1[(Int.toNat x5.2.2.1)]'h7) x5.2.2.2.1), ((x5.2.2.1 + (1 : Int)), (x5.2.2.2.1, (x5.2.2.2.2.1, (x5.2.2.2.2.2.1, ()))))))))
              ((Go.Abs.fitsK Go.IntKind.i64 (x5.2.2.1 + (1 : Int))) ∧
              (K5 (x5.1, (Bool.true, ((x5.2.2.1 + (1 : Int)), (x5.2.2.2.1, (x5.2.2.2.2.1, (x5.2.2.2.2.2.1, ())))))))))
             (Go.Abs.Loop (σ := (Int × (Bool × (Int × ((List Int) × ((List (List Int)) × ((List Int) × Unit))))))) (fun K7 x7 =>
               br ((decide (x7.2.2.1 < (((List.length x7.2.2.2.2.2.1) : Nat) : Int))))
                ((Go.Abs.fitsK Go.IntKind.i64 x7.1) ∧
                (((0 : Int) ≤ x7.2.2.1) ∧ ((Int.toNat x7.2.2.1) < (List.length x7.2.2.2.2.2.1))) ∧
                ∃ h9 : ((Int.toNat x7.2.2.1) < (List.length x7.2.2.2.2.2.1)),
                ((0 : Int) ≤ (x7.2.2.2.2.2.1[(Int.toNat x7.2.2.1)]'h9)) ∧
                br (((Go.Abs.bitsA Go.BinOp.and Go.IntKind.i64 (Go.Abs.shrA Go.IntKind.i64 x7.1 (x7.2.2.2.2.2.1[(Int.toNat x7.2.2.1)]'h9)) (1 : Int)) == (0 : Int)))
                 ((k (Go.Abs.AVal.bool Bool.false) []))
                 ((Go.Abs.fitsK Go.IntKind.i64 (x7.2.2.1 + (1 : Int))) ∧
                 (K7 (x7.1, (x7.2.1, ((x7.2.2.1 + (1 : Int)), (x7.2.2.2.1, (x7.2.2.2.2.1, (x7.2.2.2.2.2.1, ())))))))))
                ((((0 : Int) ≤ (0 : Int)) ∧ ((Int.toNat (0 : Int)) < (List.length x7.2.2.2.2.1))) ∧
                ∃ h9 : ((Int.toNat (0 : Int)) < (List.length x7.2.2.2.2.1)),
                br (((decide ((((List.length x7.2.2.2.1) : Nat) : Int) ≥ (((List.length (x7.2.2.2.2.1[(Int.toNat (0 : Int))]'h9)) : Nat) : Int))) == Bool.true))
                 (br ((x7.2.1 == Bool.true))
                  ((Go.Abs.King.v17.p ()) ∧
                  (k (Go.Abs.AVal.bool Bool.true) []))
                  ((k (Go.Abs.AVal.bool Bool.false) [])))
                 ((k (Go.Abs.AVal.bool Bool.false) [])))) ((x5.1, (x5.2.1, ((0 : Int), (x5.2.2.2.1, (x5.2.2.2.2.1, (x5.2.2.2.2.2.1, ()))))))))) ((bits, ((decide ((((List.length (Go.Abs.King.listed (Int.toNat bits) (Int.toNat m))) : Nat) : Int) > (((List.length ((Go.Abs.King.fewL m pots)[(Int.toNat (0 : Int))]'h4)) : Nat) : Int))), ((0 : Int), ((Go.Abs.King.listed (Int.toNat bits) (Int.toNat m)), ((Go.Abs.King.fewL m pots), ((Go.Abs.King.neededL m pots), ()))))))))))
        (br (((Go.Abs.King.hardN m pots (Go.Abs.King.listed (Int.toNat bits) (Int.toNat m))) == (0 : Int)))
         (br (((decide ((Go.Abs.King.hardX m pots (Go.Abs.King.listed (Int.toNat bits) (Int.toNat m))) ≥ (0 : Int))) == Bool.true))
          (br (((decide ((Go.Abs.King.hardY m pots (Go.Abs.King.listed (Int.toNat bits) (Int.toNat m))) > (Go.Abs.King.hardX m pots (Go.Abs.King.listed (Int.toNat bits) (Int.toNat m))))) == Bool.true))
           (br (((decide ((Go.Abs.King.hardY m pots (Go.Abs.King.listed (Int.toNat bits) (Int.toNat m))) < (((List.length pots) : Nat) : Int))) == Bool.true))
            ((Go.Abs.King.v44.p (m, (pots, ((Go.Abs.King.listed (Int.toNat bits) (Int.toNat m)), ((Go.Abs.King.hardX m pots (Go.Abs.King.listed (Int.toNat bits) (Int.toNat m))), ((Go.Abs.King.hardY m pots (Go.Abs.King.listed (Int.toNat bits) (Int.toNat m))), ())))))) ∧
            br (((Bool.not (Go.Abs.King.tells pots (Go.Abs.King.listed (Int.toNat bits) (Int.toNat m)) (Go.Abs.King.hardX m pots (Go.Abs.King.listed (Int.toNat bits) (Int.toNat m))) (Go.Abs.King.hardY m pots (Go.Abs.King.listed (Int.toNat bits) (Int.toNat m))))) == Bool.true))
             ((Go.Abs.King.v17.p ()) ∧
             (k (Go.Abs.AVal.bool Bool.true) []))
             ((k (Go.Abs.AVal.bool Bool.false) [])))
            ((k (Go.Abs.AVal.bool Bool.false) [])))
           ((k (Go.Abs.AVal.bool Bool.false) [])))
          ((k (Go.Abs.AVal.bool Bool.false) [])))
         ((((0 : Int) ≤ (0 : Int)) ∧ ((Int.toNat (0 : Int)) < (List.length (Go.Abs.King.fewL m pots)))) ∧
         ∃ h4 : ((Int.toNat (0 : Int)) < (List.length (Go.Abs.King.fewL m pots))),
         Go.Abs.Loop (σ := (Int × (Bool × (Int × ((List Int) × ((List (List Int)) × ((List Int) × Unit))))))) (fun K5 x5 =>
           br ((decide (x5.2.2.1 < (((List.length x5.2.2.2.2.1) : Nat) : Int))))
            (br ((x5.2.1 == Bool.false))
             ((((0 : Int) ≤ x5.2.2.1) ∧ ((Int.toNat x5.2.2.1) < (List.length x5.2.2.2.2.1))) ∧
             ∃ h7 : ((Int.toNat x5.2.2.1) < (List.length x5.2.2.2.2.1)),
             (Go.Abs.King.v24.p ((x5.2.2.2.2.1[(Int.toNat x5.2.2.1)]'h7), (x5.2.2.2.1, ()))) ∧
             (Go.Abs.fitsK Go.IntKind.i64 (x5.2.2.1 + (1 : Int))) ∧
             (K5 (x5.1, ((Go.Abs.King.eqL (x5.2.2.2.2.1[(Int.toNat x5.2.2.1)]'h7) x5.2.2.2.1), ((x5.2.2.1 + (1 : Int)), (x5.2.2.2.1, (x5.2.2.2.2.1, (x5.2.2.2.2.2.1, ()))))))))
             ((Go.Abs.fitsK Go.IntKind.i64 (x5.2.2.1 + (1 : Int))) ∧
             (K5 (x5.1, (Bool.true, ((x5.2.2.1 + (1 : Int)), (x5.2.2.2.1, (x5.2.2.2.2.1, (x5.2.2.2.2.2.1, ())))))))))
            (Go.Abs.Loop (σ := (Int × (Bool × (Int × ((List Int) × ((List (List Int)) × ((List Int) × Unit))))))) (fun K7 x7 =>
              br ((decide (x7.2.2.1 < (((List.length x7.2.2.2.2.2.1) : Nat) : Int))))
               ((Go.Abs.fitsK Go.IntKind.i64 x7.1) ∧
               (((0 : Int) ≤ x7.2.2.1) ∧ ((Int.toNat x7.2.2.1) < (List.length x7.2.2.2.2.2.1))) ∧
               ∃ h9 : ((Int.toNat x7.2.2.1) < (List.length x7.2.2.2.2.2.1)),
               ((0 : Int) ≤ (x7.2.2.2.2.2.1[(Int.toNat x7.2.2.1)]'h9)) ∧
               br (((Go.Abs.bitsA Go.BinOp.and Go.IntKind.i64 (Go.Abs.shrA Go.IntKind.i64 x7.1 (x7.2.2.2.2.2.1[(Int.toNat x7.2.2.1)]'h9)) (1 : Int)) == (0 : Int)))
                ((k (Go.Abs.AVal.bool Bool.false) []))
                ((Go.Abs.fitsK Go.IntKind.i64 (x7.2.2.1 + (1 : Int))) ∧
                (K7 (x7.1, (x7.2.1, ((x7.2.2.1 + (1 : Int)), (x7.2.2.2.1, (x7.2.2.2.2.1, (x7.2.2.2.2.2.1, ())))))))))
               ((((0 : Int) ≤ (0 : Int)) ∧ ((Int.toNat (0 : Int)) < (List.length x7.2.2.2.2.1))) ∧
               ∃ h9 : ((Int.toNat (0 : Int)) < (List.length x7.2.2.2.2.1)),
               br (((decide ((((List.length x7.2.2.2.1) : Nat) : Int) ≥ (((List.length (x7.2.2.2.2.1[(Int.toNat (0 : Int))]'h9)) : Nat) : Int))) == Bool.true))
                (br ((x7.2.1 == Bool.true))
                 ((Go.Abs.King.v17.p ()) ∧
                 (k (Go.Abs.AVal.bool Bool.true) []))
                 ((k (Go.Abs.AVal.bool Bool.false) [])))
                ((k (Go.Abs.AVal.bool Bool.false) [])))) ((x5.1, (x5.2.1, ((0 : Int), (x5.2.2.2.1, (x5.2.2.2.2.1, (x5.2.2.2.2.2.1, ()))))))))) ((bits, ((decide ((((List.length (Go.Abs.King.listed (Int.toNat bits) (Int.toNat m))) : Nat) : Int) > (((List.length ((Go.Abs.King.fewL m pots)[(Int.toNat (0 : Int))]'h4)) : Nat) : Int))), ((0 : Int), ((Go.Abs.King.listed (Int.toNat bits) (Int.toNat m)), ((Go.Abs.King.fewL m pots), ((Go.Abs.King.neededL m pots), ()))))))))))
       ((k (Go.Abs.AVal.bool Bool.false) [])))
      (br (((Bool.not (Go.Abs.King.isF m pots)) == Bool.true))
       (br (((Go.Abs.King.hardN m pots (Go.Abs.King.listed (Int.toNat bits) (Int.toNat m))) != (0 : Int)))
        ((k (Go.Abs.AVal.bool Bool.false) []))
        (br (((Go.Abs.King.hardN m pots (Go.Abs.King.listed (Int.toNat bits) (Int.toNat m))) == (0 : Int)))
         (br (((decide ((Go.Abs.King.hardX m pots (Go.Abs.King.listed (Int.toNat bits) (Int.toNat m))) ≥ (0 : Int))) == Bool.true))
          (br (((decide ((Go.Abs.King.hardY m pots (Go.Abs.King.listed (Int.toNat bits) (Int.toNat m))) > (Go.Abs.King.hardX m pots (Go.Abs.King.listed (Int.toNat bits) (Int.toNat m))))) == Bool.true))
           (br (((decide ((Go.Abs.King.hardY m pots (Go.Abs.King.listed (Int.toNat bits) (Int.toNat m))) < (((List.length pots) : Nat) : Int))) == Bool.true))
            ((Go.Abs.King.v44.p (m, (pots, ((Go.Abs.King.listed (Int.toNat bits) (Int.toNat m)), ((Go.Abs.King.hardX m pots (Go.Abs.King.listed (Int.toNat bits) (Int.toNat m))), ((Go.Abs.King.hardY m pots (Go.Abs.King.listed (Int.toNat bits) (Int.toNat m))), ())))))) ∧
            br (((Bool.not (Go.Abs.King.tells pots (Go.Abs.King.listed (Int.toNat bits) (Int.toNat m)) (Go.Abs.King.hardX m pots (Go.Abs.King.listed (Int.toNat bits) (Int.toNat m))) (Go.Abs.King.hardY m pots (Go.Abs.King.listed (Int.toNat bits) (Int.toNat m))))) == Bool.true))
             ((Go.Abs.King.v17.p ()) ∧
             (k (Go.Abs.AVal.bool Bool.true) []))
             ((k (Go.Abs.AVal.bool Bool.false) [])))
            ((k (Go.Abs.AVal.bool Bool.false) [])))
           ((k (Go.Abs.AVal.bool Bool.false) [])))
          ((k (Go.Abs.AVal.bool Bool.false) [])))
         ((((0 : Int) ≤ (0 : Int)) ∧ ((Int.toNat (0 : Int)) < (List.length (Go.Abs.King.fewL m pots)))) ∧
         ∃ h4 : ((Int.toNat (0 : Int)) < (List.length (Go.Abs.King.fewL m pots))),
         Go.Abs.Loop (σ := (Int × (Bool × (Int × ((List Int) × ((List (List Int)) × ((List Int) × Unit))))))) (fun K5 x5 =>
           br ((decide (x5.2.2.1 < (((List.length x5.2.2.2.2.1) : Nat) : Int))))
            (br ((x5.2.1 == Bool.false))
             ((((0 : Int) ≤ x5.2.2.1) ∧ ((Int.toNat x5.2.2.1) < (List.length x5.2.2.2.2.1))) ∧
             ∃ h7 : ((Int.toNat x5.2.2.1) < (List.length x5.2.2.2.2.1)),
             (Go.Abs.King.v24.p ((x5.2.2.2.2.1[(Int.toNat x5.2.2.1)]'h7), (x5.2.2.2.1, ()))) ∧
             (Go.Abs.fitsK Go.IntKind.i64 (x5.2.2.1 + (1 : Int))) ∧
             (K5 (x5.1, ((Go.Abs.King.eqL (x5.2.2.2.2.1[(Int.toNat x5.2.2.1)]'h7) x5.2.2.2.1), ((x5.2.2.1 + (1 : Int)), (x5.2.2.2.1, (x5.2.2.2.2.1, (x5.2.2.2.2.2.1, ()))))))))
             ((Go.Abs.fitsK Go.IntKind.i64 (x5.2.2.1 + (1 : Int))) ∧
             (K5 (x5.1, (Bool.true, ((x5.2.2.1 + (1 : Int)), (x5.2.2.2.1, (x5.2.2.2.2.1, (x5.2.2.2.2.2.1, ())))))))))
            (Go.Abs.Loop (σ := (Int × (Bool × (Int × ((List Int) × ((List (List Int)) × ((List Int) × Unit))))))) (fun K7 x7 =>
              br ((decide (x7.2.2.1 < (((List.length x7.2.2.2.2.2.1) : Nat) : Int))))
               ((Go.Abs.fitsK Go.IntKind.i64 x7.1) ∧
               (((0 : Int) ≤ x7.2.2.1) ∧ ((Int.toNat x7.2.2.1) < (List.length x7.2.2.2.2.2.1))) ∧
               ∃ h9 : ((Int.toNat x7.2.2.1) < (List.length x7.2.2.2.2.2.1)),
               ((0 : Int) ≤ (x7.2.2.2.2.2.1[(Int.toNat x7.2.2.1)]'h9)) ∧
               br (((Go.Abs.bitsA Go.BinOp.and Go.IntKind.i64 (Go.Abs.shrA Go.IntKind.i64 x7.1 (x7.2.2.2.2.2.1[(Int.toNat x7.2.2.1)]'h9)) (1 : Int)) == (0 : Int)))
                ((k (Go.Abs.AVal.bool Bool.false) []))
                ((Go.Abs.fitsK Go.IntKind.i64 (x7.2.2.1 + (1 : Int))) ∧
                (K7 (x7.1, (x7.2.1, ((x7.2.2.1 + (1 : Int)), (x7.2.2.2.1, (x7.2.2.2.2.1, (x7.2.2.2.2.2.1, ())))))))))
               ((((0 : Int) ≤ (0 : Int)) ∧ ((Int.toNat (0 : Int)) < (List.length x7.2.2.2.2.1))) ∧
               ∃ h9 : ((Int.toNat (0 : Int)) < (List.length x7.2.2.2.2.1)),
               br (((decide ((((List.length x7.2.2.2.1) : Nat) : Int) ≥ (((List.length (x7.2.2.2.2.1[(Int.toNat (0 : Int))]'h9)) : Nat) : Int))) == Bool.true))
                (br ((x7.2.1 == Bool.true))
                 ((Go.Abs.King.v17.p ()) ∧
                 (k (Go.Abs.AVal.bool Bool.true) []))
                 ((k (Go.Abs.AVal.bool Bool.false) [])))
                ((k (Go.Abs.AVal.bool Bool.false) [])))) ((x5.1, (x5.2.1, ((0 : Int), (x5.2.2.2.1, (x5.2.2.2.2.1, (x5.2.2.2.2.2.1, ()))))))))) ((bits, ((decide ((((List.length (Go.Abs.King.listed (Int.toNat bits) (Int.toNat m))) : Nat) : Int) > (((List.length ((Go.Abs.King.fewL m pots)[(Int.toNat (0 : Int))]'h4)) : Nat) : Int))), ((0 : Int), ((Go.Abs.King.listed (Int.toNat bits) (Int.toNat m)), ((Go.Abs.King.fewL m pots), ((Go.Abs.King.neededL m pots), ()))))))))))
       (br (((Go.Abs.King.hardN m pots (Go.Abs.King.listed (Int.toNat bits) (Int.toNat m))) == (0 : Int)))
        (br (((decide ((Go.Abs.King.hardX m pots (Go.Abs.King.listed (Int.toNat bits) (Int.toNat m))) ≥ (0 : Int))) == Bool.true))
         (br (((decide ((Go.Abs.King.hardY m pots (Go.Abs.King.listed (Int.toNat bits) (Int.toNat m))) > (Go.Abs.King.hardX m pots (Go.Abs.King.listed (Int.toNat bits) (Int.toNat m))))) == Bool.true))
          (br (((decide ((Go.Abs.King.hardY m pots (Go.Abs.King.listed (Int.toNat bits) (Int.toNat m))) < (((List.length pots) : Nat) : Int))) == Bool.true))
           ((Go.Abs.King.v44.p (m, (pots, ((Go.Abs.King.listed (Int.toNat bits) (Int.toNat m)), ((Go.Abs.King.hardX m pots (Go.Abs.King.listed (Int.toNat bits) (Int.toNat m))), ((Go.Abs.King.hardY m pots (Go.Abs.King.listed (Int.toNat bits) (Int.toNat m))), ())))))) ∧
           br (((Bool.not (Go.Abs.King.tells pots (Go.Abs.King.listed (Int.toNat bits) (Int.toNat m)) (Go.Abs.King.hardX m pots (Go.Abs.King.listed (Int.toNat bits) (Int.toNat m))) (Go.Abs.King.hardY m pots (Go.Abs.King.listed (Int.toNat bits) (Int.toNat m))))) == Bool.true))
            ((Go.Abs.King.v17.p ()) ∧
            (k (Go.Abs.AVal.bool Bool.true) []))
            ((k (Go.Abs.AVal.bool Bool.false) [])))
           ((k (Go.Abs.AVal.bool Bool.false) [])))
          ((k (Go.Abs.AVal.bool Bool.false) [])))
         ((k (Go.Abs.AVal.bool Bool.false) [])))
        ((((0 : Int) ≤ (0 : Int)) ∧ ((Int.toNat (0 : Int)) < (List.length (Go.Abs.King.fewL m pots)))) ∧
        ∃ h4 : ((Int.toNat (0 : Int)) < (List.length (Go.Abs.King.fewL m pots))),
        Go.Abs.Loop (σ := (Int × (Bool × (Int × ((List Int) × ((List (List Int)) × ((List Int) × Unit))))))) (fun K5 x5 =>
          br ((decide (x5.2.2.1 < (((List.length x5.2.2.2.2.1) : Nat) : Int))))
           (br ((x5.2.1 == Bool.false))
            ((((0 : Int) ≤ x5.2.2.1) ∧ ((Int.toNat x5.2.2.1) < (List.length x5.2.2.2.2.1))) ∧
            ∃ h7 : ((Int.toNat x5.2.2.1) < (List.length x5.2.2.2.2.1)),
            (Go.Abs.King.v24.p ((x5.2.2.2.2.1[(Int.toNat x5.2.2.1)]'h7), (x5.2.2.2.1, ()))) ∧
            (Go.Abs.fitsK Go.IntKind.i64 (x5.2.2.1 + (1 : Int))) ∧
            (K5 (x5.1, ((Go.Abs.King.eqL (x5.2.2.2.2.1[(Int.toNat x5.2.2.1)]'h7) x5.2.2.2.1), ((x5.2.2.1 + (1 : Int)), (x5.2.2.2.1, (x5.2.2.2.2.1, (x5.2.2.2.2.2.1, ()))))))))
            ((Go.Abs.fitsK Go.IntKind.i64 (x5.2.2.1 + (1 : Int))) ∧
            (K5 (x5.1, (Bool.true, ((x5.2.2.1 + (1 : Int)), (x5.2.2.2.1, (x5.2.2.2.2.1, (x5.2.2.2.2.2.1, ())))))))))
           (Go.Abs.Loop (σ := (Int × (Bool × (Int × ((List Int) × ((List (List Int)) × ((List Int) × Unit))))))) (fun K7 x7 =>
             br ((decide (x7.2.2.1 < (((List.length x7.2.2.2.2.2.1) : Nat) : Int))))
              ((Go.Abs.fitsK Go.IntKind.i64 x7.1) ∧
              (((0 : Int) ≤ x7.2.2.1) ∧ ((Int.toNat x7.2.2.1) < (List.length x7.2.2.2.2.2.1))) ∧
              ∃ h9 : ((Int.toNat x7.2.2.1) < (List.length x7.2.2.2.2.2.1)),
              ((0 : Int) ≤ (x7.2.2.2.2.2.1[(Int.toNat x7.2.2.1)]'h9)) ∧
              br (((Go.Abs.bitsA Go.BinOp.and Go.IntKind.i64 (Go.Abs.shrA Go.IntKind.i64 x7.1 (x7.2.2.2.2.2.1[(Int.toNat x7.2.2.1)]'h9)) (1 : Int)) == (0 : Int)))
               ((k (Go.Abs.AVal.bool Bool.false) []))
               ((Go.Abs.fitsK Go.IntKind.i64 (x7.2.2.1 + (1 : Int))) ∧
               (K7 (x7.1, (x7.2.1, ((x7.2.2.1 + (1 : Int)), (x7.2.2.2.1, (x7.2.2.2.2.1, (x7.2.2.2.2.2.1, ())))))))))
              ((((0 : Int) ≤ (0 : Int)) ∧ ((Int.toNat (0 : Int)) < (List.length x7.2.2.2.2.1))) ∧
              ∃ h9 : ((Int.toNat (0 : Int)) < (List.length x7.2.2.2.2.1)),
              br (((decide ((((List.length x7.2.2.2.1) : Nat) : Int) ≥ (((List.length (x7.2.2.2.2.1[(Int.toNat (0 : Int))]'h9)) : Nat) : Int))) == Bool.true))
               (br ((x7.2.1 == Bool.true))
                ((Go.Abs.King.v17.p ()) ∧
                (k (Go.Abs.AVal.bool Bool.true) []))
                ((k (Go.Abs.AVal.bool Bool.false) [])))
               ((k (Go.Abs.AVal.bool Bool.false) [])))) ((x5.1, (x5.2.1, ((0 : Int), (x5.2.2.2.1, (x5.2.2.2.2.1, (x5.2.2.2.2.2.1, ()))))))))) ((bits, ((decide ((((List.length (Go.Abs.King.listed (Int.toNat bits) (Int.toNat m))) : Nat) : Int) > (((List.length ((Go.Abs.King.fewL m pots)[(Int.toNat (0 : Int))]'h4)) : Nat) : Int))), ((0 : Int), ((Go.Abs.King.listed (Int.toNat bits) (Int.toNat m)), ((Go.Abs.King.fewL m pots), ((Go.Abs.King.neededL m pots), ())))))))))))
     ((k (Go.Abs.AVal.bool Bool.false) [])))
    ((k (Go.Abs.AVal.bool Bool.false) [])))
theorem eq7 (m : Int) (pots : List (List Int)) (bits : Int) (k : AVal → List Cont → Prop) : awpF (envOf [(40, mkC [v40]), (17, mkC [v17]), (41, mkC [v41]), (18, mkC [v18]), (42, mkC [v42]), (27, mkC [v27]), (43, mkC [v43]), (44, mkC [v44]), (24, mkC [v24])]) Try.prog kt 7 false Try.f7 (v7.S.enc Unit (m, pots, bits, ())).1 [] k = vc7 m pots bits k := by kernel_rfl
theorem tx7 : (Try.f7.body.map Code.textsOk).getD true = true := by kernel_rfl

def vc8 (m : Int) (pots : List (List Int)) (t : List (Int × List Int)) (k : AVal → List Cont → Prop) : Prop :=
  (Go.Abs.King.v40.p (m, (pots, ()))) ∧
  br (((Bool.not (Go.Abs.King.fineB m pots)) == Bool.false))
   ((Go.Abs.King.v34.p (t, ())) ∧
   br ((Go.Abs.King.wide t))
    ((Go.Abs.King.v17.p ()) ∧
    (k (Go.Abs.AVal.bool Bool.true) []))
    ((Go.Abs.King.v45.p (m, (pots, ()))) ∧
    (Go.Abs.King.v30.p (m, (pots, ((List.replicate (Int.toNat m) (-(1 : Int) : Int)), ())))) ∧
    (Go.Abs.King.v35.p (m, (pots, (t, ())))) ∧
    (Go.Abs.King.v37.p (m, (pots, ()))) ∧
    (Go.Abs.King.v42.p (m, (pots, ()))) ∧
    br ((((Go.Abs.King.seenErr m pots (List.replicate (Int.toNat m) (-(1 : Int) : Int))) != (0 : Int)) == Bool.false))
     (br (((Bool.not ((Go.Abs.King.isF m pots) == (decide ((Go.Abs.King.looksE m pots (List.replicate (Int.toNat m) (-(1 : Int) : Int))) ≥ (0 : Int))))) == Bool.false))
      (br (((Bool.not ((Go.Abs.King.isF m pots) == ((Go.Abs.King.madeE m pots) == (0 : Int)))) == Bool.false))
       (br (((Bool.not (Go.Abs.King.isF m pots)) == Bool.true))
        (br ((((Go.Abs.King.madeE m pots) != (27 : Int)) == Bool.false))
         ((Go.Abs.King.v34.p ((Go.Abs.King.madeT m pots), ())) ∧
         br ((Go.Abs.King.wide (Go.Abs.King.madeT m pots)))
          ((k (Go.Abs.AVal.bool Bool.false) []))
          (br ((Bool.not (Go.Abs.King.isF m pots)))
           (br ((((Go.Abs.King.treeE m pots t) != (0 : Int)) == Bool.true))
            (br ((((((List.length (Go.Abs.King.madeT m pots)) : Nat) : Int) == (0 : Int)) == Bool.true))
             ((Go.Abs.King.v17.p ()) ∧
             (k (Go.Abs.AVal.bool Bool.true) []))
             ((k (Go.Abs.AVal.bool Bool.false) [])))
            ((k (Go.Abs.AVal.bool Bool.false) [])))
           ((Go.Abs.King.v35.p (m, (pots, ((Go.Abs.King.madeT m pots), ())))) ∧
           (Go.Abs.King.v36.p (m, (pots, ((Go.Abs.King.madeT m pots), ())))) ∧
           br ((((Go.Abs.King.treeE m pots t) != (0 : Int)) == Bool.false))
            (br (((decide ((Go.Abs.King.treeN m pots t) ≥ (Go.Abs.King.looksE m pots (List.replicate (Int.toNat m) (-(1 : Int) : Int))))) == Bool.true))
             ((Go.Abs.fitsK Go.IntKind.i64 ((4 : Int) * (((List.length t) : Nat) : Int))) ∧
             (Go.Abs.fitsK Go.IntKind.i64 (((4 : Int) * (((List.length t) : Nat) : Int)) + (1 : Int))) ∧
             br (((decide ((((4 : Int) * (((List.length t) : Nat) : Int)) + (1 : Int)) ≥ (((List.length pots) : Nat) : Int))) == Bool.true))
              (br ((((Go.Abs.King.treeE m pots (Go.Abs.King.madeT m pots)) == (0 : Int)) == Bool.true))
               (br ((((Go.Abs.King.treeE m pots (Go.Abs.King.madeT m pots)) == (0 : Int)) == Bool.true))
                (br ((((Go.Abs.King.treeN m pots (Go.Abs.King.madeT m pots)) == (Go.Abs.King.looksE m pots (List.replicate (Int.toNat m) (-(1 : Int) : Int)))) == Bool.true))
                 ((((0 : Int) ≤ (0 : Int)) ∧ ((Int.toNat (0 : Int)) < (List.length (Go.Abs.King.fewL m pots)))) ∧
                 ∃ h4 : ((Int.toNat (0 : Int)) < (List.length (Go.Abs.King.fewL m pots))),
                 br (((decide ((Go.Abs.King.looksE m pots (List.replicate (Int.toNat m) (-(1 : Int) : Int))) ≤ (((List.length ((Go.Abs.King.fewL m pots)[(Int.toNat (0 : Int))]'h4)) : Nat) : Int))) == Bool.true))
                  ((Go.Abs.fitsK Go.IntKind.i64 ((4 : Int) * (((List.length (Go.Abs.King.madeT m pots)) : Nat) : Int))) ∧
                  (Go.Abs.fitsK Go.IntKind.i64 (((4 : Int) * (((List.length (Go.Abs.King.madeT m pots)) : Nat) : Int)) + (1 : Int))) ∧
                  br (((decide ((((4 : Int) * (((List.length (Go.Abs.King.madeT m pots)) : Nat) : Int)) + (1 : Int)) ≥ (((List.length pots) : Nat) : Int))) == Bool.true))
                   ((Go.Abs.King.v17.p ()) ∧
                   (k (Go.Abs.AVal.bool Bool.true) []))
                   ((k (Go.Abs.AVal.bool Bool.false) [])))
                  ((k (Go.Abs.AVal.bool Bool.false) [])))
                 ((k (Go.Abs.AVal.bool Bool.false) [])))
                ((k (Go.Abs.AVal.bool Bool.false) [])))
               ((k (Go.Abs.AVal.bool Bool.false) [])))
              ((k (Go.Abs.AVal.bool Bool.false) [])))
             ((k (Go.Abs.AVal.bool Bool.false) [])))
            (br ((((Go.Abs.King.treeE m pots (Go.Abs.King.madeT m pots)) == (0 : Int)) == Bool.true))
             (br ((((Go.Abs.King.treeE m pots (Go.Abs.King.madeT m pots)) == (0 : Int)) == Bool.true))
              (br ((((Go.Abs.King.treeN m pots (Go.Abs.King.madeT m pots)) == (Go.Abs.King.looksE m pots (List.replicate (Int.toNat m) (-(1 : Int) : Int)))) == Bool.true))
               ((((0 : Int) ≤ (0 : Int)) ∧ ((Int.toNat (0 : Int)) < (List.length (Go.Abs.King.fewL m pots)))) ∧
               ∃ h4 : ((Int.toNat (0 : Int)) < (List.length (Go.Abs.King.fewL m pots))),
               br (((decide ((Go.Abs.King.looksE m pots (List.replicate (Int.toNat m) (-(1 : Int) : Int))) ≤ (((List.length ((Go.Abs.King.fewL m pots)[(Int.toNat (0 : Int))]'h4)) : Nat) : Int))) == Bool.true))
                ((Go.Abs.fitsK Go.IntKind.i64 ((4 : Int) * (((List.length (Go.Abs.King.madeT m pots)) : Nat) : Int))) ∧
                (Go.Abs.fitsK Go.IntKind.i64 (((4 : Int) * (((List.length (Go.Abs.King.madeT m pots)) : Nat) : Int)) + (1 : Int))) ∧
                br (((decide ((((4 : Int) * (((List.length (Go.Abs.King.madeT m pots)) : Nat) : Int)) + (1 : Int)) ≥ (((List.length pots) : Nat) : Int))) == Bool.true))
                 ((Go.Abs.King.v17.p ()) ∧
                 (k (Go.Abs.AVal.bool Bool.true) []))
                 ((k (Go.Abs.AVal.bool Bool.false) [])))
                ((k (Go.Abs.AVal.bool Bool.false) [])))
               ((k (Go.Abs.AVal.bool Bool.false) [])))
              ((k (Go.Abs.AVal.bool Bool.false) [])))
             ((k (Go.Abs.AVal.bool Bool.false) []))))))
         ((k (Go.Abs.AVal.bool Bool.false) [])))
        ((Go.Abs.King.v34.p ((Go.Abs.King.madeT m pots), ())) ∧
        br ((Go.Abs.King.wide (Go.Abs.King.madeT m pots)))
         ((k (Go.Abs.AVal.bool Bool.false) []))
         (br ((Bool.not (Go.Abs.King.isF m pots)))
          (br ((((Go.Abs.King.treeE m pots t) != (0 : Int)) == Bool.true))
           (br ((((((List.length (Go.Abs.King.madeT m pots)) : Nat) : Int) == (0 : Int)) == Bool.true))
            ((Go.Abs.King.v17.p ()) ∧
            (k (Go.Abs.AVal.bool Bool.true) []))
            ((k (Go.Abs.AVal.bool Bool.false) [])))
           ((k (Go.Abs.AVal.bool Bool.false) [])))
          ((Go.Abs.King.v35.p (m, (pots, ((Go.Abs.King.madeT m pots), ())))) ∧
          (Go.Abs.King.v36.p (m, (pots, ((Go.Abs.King.madeT m pots), ())))) ∧
          br ((((Go.Abs.King.treeE m pots t) != (0 : Int)) == Bool.false))
           (br (((decide ((Go.Abs.King.treeN m pots t) ≥ (Go.Abs.King.looksE m pots (List.replicate (Int.toNat m) (-(1 : Int) : Int))))) == Bool.true))
            ((Go.Abs.fitsK Go.IntKind.i64 ((4 : Int) * (((List.length t) : Nat) : Int))) ∧
            (Go.Abs.fitsK Go.IntKind.i64 (((4 : Int) * (((List.length t) : Nat) : Int)) + (1 : Int))) ∧
            br (((decide ((((4 : Int) * (((List.length t) : Nat) : Int)) + (1 : Int)) ≥ (((List.length pots) : Nat) : Int))) == Bool.true))
             (br ((((Go.Abs.King.treeE m pots (Go.Abs.King.madeT m pots)) == (0 : Int)) == Bool.true))
              (br ((((Go.Abs.King.treeE m pots (Go.Abs.King.madeT m pots)) == (0 : Int)) == Bool.true))
               (br ((((Go.Abs.King.treeN m pots (Go.Abs.King.madeT m pots)) == (Go.Abs.King.looksE m pots (List.replicate (Int.toNat m) (-(1 : Int) : Int)))) == Bool.true))
                ((((0 : Int) ≤ (0 : Int)) ∧ ((Int.toNat (0 : Int)) < (List.length (Go.Abs.King.fewL m pots)))) ∧
                ∃ h4 : ((Int.toNat (0 : Int)) < (List.length (Go.Abs.King.fewL m pots))),
                br (((decide ((Go.Abs.King.looksE m pots (List.replicate (Int.toNat m) (-(1 : Int) : Int))) ≤ (((List.length ((Go.Abs.King.fewL m pots)[(Int.toNat (0 : Int))]'h4)) : Nat) : Int))) == Bool.true))
                 ((Go.Abs.fitsK Go.IntKind.i64 ((4 : Int) * (((List.length (Go.Abs.King.madeT m pots)) : Nat) : Int))) ∧
                 (Go.Abs.fitsK Go.IntKind.i64 (((4 : Int) * (((List.length (Go.Abs.King.madeT m pots)) : Nat) : Int)) + (1 : Int))) ∧
                 br (((decide ((((4 : Int) * (((List.length (Go.Abs.King.madeT m pots)) : Nat) : Int)) + (1 : Int)) ≥ (((List.length pots) : Nat) : Int))) == Bool.true))
                  ((Go.Abs.King.v17.p ()) ∧
                  (k (Go.Abs.AVal.bool Bool.true) []))
                  ((k (Go.Abs.AVal.bool Bool.false) [])))
                 ((k (Go.Abs.AVal.bool Bool.false) [])))
                ((k (Go.Abs.AVal.bool Bool.false) [])))
               ((k (Go.Abs.AVal.bool Bool.false) [])))
              ((k (Go.Abs.AVal.bool Bool.false) [])))
             ((k (Go.Abs.AVal.bool Bool.false) [])))
            ((k (Go.Abs.AVal.bool Bool.false) [])))
           (br ((((Go.Abs.King.treeE m pots (Go.Abs.King.madeT m pots)) == (0 : Int)) == Bool.true))
            (br ((((Go.Abs.King.treeE m pots (Go.Abs.King.madeT m pots)) == (0 : Int)) == Bool.true))
             (br ((((Go.Abs.King.treeN m pots (Go.Abs.King.madeT m pots)) == (Go.Abs.King.looksE m pots (List.replicate (Int.toNat m) (-(1 : Int) : Int)))) == Bool.true))
              ((((0 : Int) ≤ (0 : Int)) ∧ ((Int.toNat (0 : Int)) < (List.length (Go.Abs.King.fewL m pots)))) ∧
              ∃ h4 : ((Int.toNat (0 : Int)) < (List.length (Go.Abs.King.fewL m pots))),
              br (((decide ((Go.Abs.King.looksE m pots (List.replicate (Int.toNat m) (-(1 : Int) : Int))) ≤ (((List.length ((Go.Abs.King.fewL m pots)[(Int.toNat (0 : Int))]'h4)) : Nat) : Int))) == Bool.true))
               ((Go.Abs.fitsK Go.IntKind.i64 ((4 : Int) * (((List.length (Go.Abs.King.madeT m pots)) : Nat) : Int))) ∧
               (Go.Abs.fitsK Go.IntKind.i64 (((4 : Int) * (((List.length (Go.Abs.King.madeT m pots)) : Nat) : Int)) + (1 : Int))) ∧
               br (((decide ((((4 : Int) * (((List.length (Go.Abs.King.madeT m pots)) : Nat) : Int)) + (1 : Int)) ≥ (((List.length pots) : Nat) : Int))) == Bool.true))
                ((Go.Abs.King.v17.p ()) ∧
                (k (Go.Abs.AVal.bool Bool.true) []))
                ((k (Go.Abs.AVal.bool Bool.false) [])))
               ((k (Go.Abs.AVal.bool Bool.false) [])))
              ((k (Go.Abs.AVal.bool Bool.false) [])))
             ((k (Go.Abs.AVal.bool Bool.false) [])))
            ((k (Go.Abs.AVal.bool Bool.false) [])))))))
       ((k (Go.Abs.AVal.bool Bool.false) [])))
      ((k (Go.Abs.AVal.bool Bool.false) [])))
     ((k (Go.Abs.AVal.bool Bool.false) []))))
   ((Go.Abs.King.v17.p ()) ∧
   (k (Go.Abs.AVal.bool Bool.true) []))
theorem eq8 (m : Int) (pots : List (List Int)) (t : List (Int × List Int)) (k : AVal → List Cont → Prop) : awpF (envOf [(40, mkC [v40]), (34, mkC [v34]), (17, mkC [v17]), (45, mkC [v45]), (30, mkC [v30]), (35, mkC [v35]), (37, mkC [v37]), (42, mkC [v42]), (36, mkC [v36])]) Try.prog kt 8 false Try.f8 (v8.S.enc Unit (m, pots, t, ())).1 [] k = vc8 m pots t k := by kernel_rfl
theorem tx8 : (Try.f8.body.map Code.textsOk).getD true = true := by kernel_rfl

end Go.Abs.King
end

section
/- The king's statements: THE STAGE'S THEOREM. -/
open Go.Proofs
set_option maxRecDepth 100000
set_option linter.unusedVariables false
namespace Go.Abs.King

theorem br_t (p q : Prop) : br true p q = p := rfl
theorem br_f (p q : Prop) : br false p q = q := rfl
theorem tt1 : (true == true) = true := rfl
theorem tf1 : (true == false) = false := rfl
theorem ft1 : (false == true) = false := rfl
theorem ff1 : (false == false) = true := rfl
theorem n00 : ((0 : Int) != 0) = false := rfl
theorem n50 : ((5 : Int) != 0) = true := rfl
theorem n55 : ((5 : Int) != 5) = false := rfl
theorem e00 : ((0 : Int) == 0) = true := rfl
theorem e50 : ((5 : Int) == 0) = false := rfl

theorem bit_zero (a i : Nat) (ha : a < 9223372036854775808) : (bitsA .and .i64 (shrA .i64 a i) 1 == 0) = !a.testBit i := by
  rw [shr_nat a i ha]
  have h1 : a >>> i < 9223372036854775808 := Nat.lt_of_le_of_lt (Nat.shiftRight_le a i) ha
  have := land_nat (a >>> i) 1 h1 (by omega)
  rw [show ((1 : Int)) = ((1 : Nat) : Int) from rfl, this]
  rw [Nat.testBit]
  simp only [Nat.and_one_is_mod, Nat.one_and_eq_mod_two]
  generalize a >>> i = q
  have hq : q % 2 = 0 ∨ q % 2 = 1 := by omega
  rcases hq with h | h <;> simp [h]

theorem hardN_own {m : Nat} {pots : List (List Int)} (hf : checkShelf (m : Int) pots = 0) {l : List Int} (hl : isList l (m : Int) = true) : hardN (m : Int) pots l = if hardB pots l then 0 else 5 := by
  unfold hardN
  rw [if_neg (not_not_intro hf), hl]; rfl
theorem hardB_spec {pots : List (List Int)} {marks : List Int} (h : hardB pots marks = true) : ∃ i k : Nat, hardI pots marks = (i : Int) ∧ hardK pots marks = (k : Int) ∧ i < k ∧ k < pots.length ∧ tells pots marks i k = false := by
  unfold hardB hardOf at h
  unfold hardI hardK hardOf
  cases hp : hardP pots marks with
  | none => rw [hp] at h; cases h
  | some u =>
    refine ⟨u.1, u.2, rfl, rfl, ?_⟩
    unfold hardP at hp
    have h1 := List.mem_of_find?_eq_some hp
    have h2 := List.find?_some hp
    unfold pairs at h1
    obtain ⟨i, hi, hu⟩ := List.mem_flatMap.1 h1
    obtain ⟨k, hk, rfl⟩ := List.mem_map.1 hu
    have hk := List.mem_range'_1.1 hk
    have hi := List.mem_range.1 hi
    refine ⟨by omega, by omega, by simpa using h2⟩

theorem needed_mem {m : Nat} {pots : List (List Int)} (hf : checkShelf (m : Int) pots = 0) {x : Int} (hx : x ∈ neededL (m : Int) pots) : ∃ j : Nat, x = (j : Int) ∧ j < m ∧ ∃ i k, i < pots.length ∧ k < i ∧ apart pots m i k = [(j : Int)] := by
  unfold neededL at hx
  rw [if_neg (not_not_intro hf), Int.toNat_natCast] at hx
  obtain ⟨j, hj, rfl⟩ := List.mem_map.1 hx
  obtain ⟨h1, h2⟩ := List.mem_filter.1 hj
  refine ⟨j, rfl, List.mem_range.1 h1, ?_⟩
  unfold isNeeded at h2
  obtain ⟨i, hi, h3⟩ := List.any_eq_true.1 h2
  obtain ⟨k, hk, h4⟩ := List.any_eq_true.1 h3
  exact ⟨i, k, List.mem_range.1 hi, List.mem_range.1 hk, of_decide_eq_true h4⟩
theorem needed_isList (m : Nat) (pots : List (List Int)) : isList (neededL (m : Int) pots) (m : Int) = true := by
  unfold neededL
  split
  · rfl
  · rw [Int.toNat_natCast]
    refine (rises_iff (m : Int) _ 0).2 ⟨fun x hx => ?_, ?_⟩
    · obtain ⟨j, hj, rfl⟩ := List.mem_map.1 hx
      have := List.mem_range.1 (List.mem_filter.1 hj).1
      show (0 : Int) ≤ (j : Int) ∧ (j : Int) < (m : Int)
      omega
    · rw [List.pairwise_map]
      refine List.Pairwise.imp (R := (· < ·)) (fun {a b} h => Int.ofNat_lt.2 h) ?_
      exact List.Pairwise.filter _ (List.pairwise_lt_range)
theorem needed_len (m : Nat) (pots : List (List Int)) : (neededL (m : Int) pots).length ≤ m := by
  unfold neededL
  split
  · simp
  · rw [List.length_map, Int.toNat_natCast]
    exact Nat.le_trans (List.length_filter_le _ _) (by simp)
/-- A mark that is needed is in each list that tells the shelf. -/
theorem needed_in {m : Nat} {pots : List (List Int)} (hf : checkShelf (m : Int) pots = 0) {l : List Int} (hl : isList l (m : Int) = true) (hh : hardB pots l = false) {x : Int} (hx : x ∈ neededL (m : Int) pots) : x ∈ l := by
  obtain ⟨j, rfl, hj, i, k, hi, hk, ha⟩ := needed_mem hf hx
  obtain ⟨y, hy, hd⟩ := hard_false hh hi (show k < pots.length by omega) (by omega)
  have hb := ((rises_iff (m : Int) l 0).1 hl).1 y hy
  obtain ⟨z, rfl⟩ := Int.eq_ofNat_of_zero_le hb.1
  have : (z : Int) ∈ apart pots m i k := apart_mem.2 ⟨z, rfl, by omega, by simpa using hd⟩
  rw [ha] at this
  rw [← List.mem_singleton.1 this]; exact hy
/-- Marks that tell a shelf are no fewer than the shortest lists, and one of them if they are as many. -/
theorem few_min {m : Nat} {pots : List (List Int)} (hf : checkShelf (m : Int) pots = 0) {l : List Int} (hl : isList l (m : Int) = true) (hh : hardB pots l = false) : ∃ n, fewK (m : Int) pots = some n ∧ n ≤ l.length ∧ (n = l.length → l ∈ fewL (m : Int) pots) := by
  have hx : l ∈ listsN pots m l.length [] := listsN_iff.2 ⟨hl, rfl, hh⟩
  have hlm : l.length ≤ m := by
    have := rises_len l 0 (m : Int) (by omega) hl
    omega
  rcases isF_err hf with ⟨_, _, h3⟩ | ⟨n, h1, h2, h3, h4, h5⟩
  · exfalso
    unfold fewK at h3
    have := List.find?_eq_none.1 h3 l.length (List.mem_range.2 (by rw [Int.toNat_natCast]; omega))
    exact this (decide_eq_true (List.length_pos_of_mem hx))
  · refine ⟨n, h3, ?_, fun e => ?_⟩
    · rcases Nat.lt_or_ge l.length n with hlt | hge
      · exfalso
        unfold fewK at h3
        rw [Int.toNat_natCast, List.range_eq_range'] at h3
        obtain ⟨_, a, b, hab, hnot⟩ := List.find?_eq_some_iff_append.1 h3
        have hmem : l.length ∈ a := by
          have hs2 : l.length ∈ List.range' 0 (m + 1) := List.mem_range'_1.2 ⟨by omega, by omega⟩
          rw [hab] at hs2
          rcases List.mem_append.1 hs2 with h' | h'
          · exact h'
          · exfalso
            have hp : (a ++ n :: b).Pairwise (· < ·) := hab ▸ List.pairwise_lt_range' ..
            have hp2 := (List.pairwise_append.1 hp).2.1
            rw [List.pairwise_cons] at hp2
            rcases List.mem_cons.1 h' with e | h'
            · omega
            · have := hp2.1 _ h'; omega
        have := hnot _ hmem
        simp only [Bool.not_eq_true', decide_eq_false_iff_not] at this
        exact this (List.length_pos_of_mem hx)
      · exact hge
    · rw [h4, Int.toNat_natCast, e]; exact hx
theorem few_len {m : Nat} {pots : List (List Int)} (hf : checkShelf (m : Int) pots = 0) : (fewL (m : Int) pots).length ≤ 20 := by
  obtain ⟨f1, f2, f3, f4⟩ := fine_spec hf
  rcases isF_err hf with ⟨_, e, _⟩ | ⟨n, n1, _, n3, n4, _⟩
  · rw [e]; simp
  · have hcb := listsN_cB pots (m : Int).toNat n []
    have h20 := cB_small n (by omega) (m : Int).toNat (by omega)
    have hn0 : nextOf [] = 0 := rfl
    rw [hn0, ← n4, Nat.sub_zero] at hcb
    omega
theorem fine_of {m : Int} {pots : List (List Int)} (h : fineB m pots = true) : checkShelf m pots = 0 ∧ smallS pots := by
  unfold fineB at h
  rw [Bool.and_eq_true] at h
  have hg : great pots = false := by cases hg : great pots with
    | true => rw [hg] at h; exact absurd h.1 (by simp)
    | false => rfl
  exact ⟨of_decide_eq_true h.2, great_small hg⟩
theorem notfine_f {m : Int} {pots : List (List Int)} (h : Bool.not (fineB m pots) = false) : fineB m pots = true := by
  cases hh : fineB m pots with
  | true => rfl
  | false => rw [hh] at h; cases h

theorem k7 (hG : Good Try.prog (envOf [(40, mkC [v40]), (17, mkC [v17]), (41, mkC [v41]), (18, mkC [v18]), (42, mkC [v42]), (27, mkC [v27]), (43, mkC [v43]), (44, mkC [v44]), (24, mkC [v24])])) : v7.Kept Try.prog 7 := by
  rintro ⟨m, pots, bits, ⟨⟩⟩ hpre k hk
  change List (List Int) at pots
  change Int at m bits
  refine aspec hmix hG Try.func7 tx7 (Eq.mpr (eq7 m pots bits k) ?_)
  replace hk : k (.bool true) [] := hk
  have hb0 : 0 ≤ bits := hpre.1
  have hb1 : bits ≤ 255 := hpre.2
  obtain ⟨b, rfl⟩ := Int.eq_ofNat_of_zero_le hb0
  unfold vc7
  refine ⟨trivial, br_intro (fun h1 => ⟨trivial, hk⟩) (fun h1 => ?_)⟩
  obtain ⟨hf, hs⟩ := fine_of (notfine_f h1)
  obtain ⟨f1, f2, f3, f4⟩ := fine_spec hf
  obtain ⟨mm, rfl⟩ := Int.eq_ofNat_of_zero_le (show 0 ≤ m by omega)
  rw [Int.toNat_natCast, Int.toNat_natCast]
  have hown := listed_isList b mm
  have hol := listed_len b mm
  have hN := hardN_own hf hown
  have hnl := needed_len mm pots
  have hnI := needed_isList mm pots
  have hpr41 : v41.pre ((b : Int), (mm : Int), ()) := ⟨⟨by show (0 : Int) ≤ (b : Int); omega, by show (b : Int) < 4611686018427387904; omega⟩, by show (0 : Int) ≤ (mm : Int); omega, by show (mm : Int) ≤ 40; omega⟩
  have hpr18 : v18.pre ((mm : Int), pots, listed b mm, ()) := ⟨hs, by show (listed b mm).length ≤ 1152921504606846976; omega⟩
  have hpr43 : v43.pre (neededL (mm : Int) pots, (mm : Int), ()) := by show (neededL (mm : Int) pots).length ≤ 1152921504606846976; omega
  have hin : inMarks (mm : Int) (listed b mm) := by
    intro x hx
    obtain ⟨i, rfl, hi, _⟩ := mem_listed hx
    omega
  refine ⟨fits64 (by omega) (by omega), hpr41, hpr18, hf, hs, ?_⟩
  rw [hf, n00, ff1, br_t]
  refine ⟨hpr43, ?_⟩
  rw [hnI, Bool.not_true, ff1, br_t]
  cases hh : hardB pots (listed b mm) with
  | true =>
    rw [hh, if_pos rfl] at hN
    obtain ⟨i, t, hi, ht, hit, htn, htell⟩ := hardB_spec hh
    have hX : hardX (mm : Int) pots (listed b mm) = (i : Int) := by unfold hardX; rw [hN, if_pos rfl, hi]
    have hY : hardY (mm : Int) pots (listed b mm) = (t : Int) := by unfold hardY; rw [hN, if_pos rfl, ht]
    have hpr44 : v44.pre ((mm : Int), pots, listed b mm, (i : Int), (t : Int), ()) := ⟨hf, by show (listed b mm).length ≤ 1152921504606846976; omega, hin, ⟨by show (0 : Int) ≤ (i : Int); omega, by show (i : Int) < (pots.length : Int); omega⟩, ⟨by show (0 : Int) ≤ (t : Int); omega, by show (t : Int) < (pots.length : Int); omega⟩⟩
    rw [hN, hX, hY, n00, ft1, br_f, e00, br_t, htell, Bool.not_false, tt1, br_t]
    have d1 : decide ((i : Int) ≥ 0) = true := decide_eq_true (by omega)
    have d2 : decide ((t : Int) > (i : Int)) = true := decide_eq_true (by omega)
    have d3 : decide ((t : Int) < ((pots.length : Nat) : Int)) = true := decide_eq_true (by omega)
    rw [d1, d2, d3, tt1, br_t, br_t, br_t]
    have hgoal : v44.p ((mm : Int), pots, listed b mm, (i : Int), (t : Int), ()) ∧ v17.p () ∧ k (.bool true) [] := ⟨hpr44, trivial, hk⟩
    first
      | exact hgoal
      | (cases hF : isF (mm : Int) pots <;> exact hgoal)
  | false =>
    rw [hh, if_neg (by simp)] at hN
    obtain ⟨n, hn1, hn2, hn3⟩ := few_min hf hown hh
    have hsp := few_spec hf hn1
    have hfl := few_len hf
    have hF : isF (mm : Int) pots = true := by
      unfold isF fewE
      rw [if_neg (not_not_intro hf), hn1]; rfl
    have hpos : 0 < (fewL (mm : Int) pots).length := by
      rcases isF_err hf with ⟨_, _, h3⟩ | ⟨_, _, _, _, _, h5⟩
      · rw [hn1] at h3; cases h3
      · exact h5
    have hl0 := (hsp _ (List.getElem_mem hpos)).2.1
    rw [hN, hF, n50, tt1, br_t, n55, ff1, br_t, Bool.not_true, ft1, br_f, e50, br_f]
    refine ⟨⟨by omega, hpos⟩, hpos, ?_⟩
    have h0 : (Int.toNat (0 : Int)) = 0 := rfl
    simp only [h0]
    have hamong : (decide (((listed b mm).length : Int) > ((fewL (mm : Int) pots)[0].length : Int)) || (fewL (mm : Int) pots).any (fun l => eqL l (listed b mm))) = true := by
      rw [Bool.or_eq_true]
      by_cases e : n = (listed b mm).length
      · right
        exact List.any_eq_true.2 ⟨_, hn3 e, decide_eq_true rfl⟩
      · left
        exact decide_eq_true (by omega)
    refine Loop.upto (fun c => ((b : Int), (decide (((listed b mm).length : Int) > ((fewL (mm : Int) pots)[0].length : Int)) || ((fewL (mm : Int) pots).take c).any (fun l => eqL l (listed b mm))), (c : Int), listed b mm, fewL (mm : Int) pots, neededL (mm : Int) pots, ())) (fun c => True) (fewL (mm : Int) pots).length (by simp only [List.take_zero, List.any_nil, Bool.or_false]; rfl) trivial ?_ ?_
    · intro c K hc _ hK
      have hK := hK trivial
      rw [any_take_succ _ _ _ hc, ← Bool.or_assoc] at hK
      dsimp only
      generalize (decide (((listed b mm).length : Int) > ((fewL (mm : Int) pots)[0].length : Int)) || ((fewL (mm : Int) pots).take c).any (fun l => eqL l (listed b mm))) = z at hK ⊢
      rw [br_decide]
      simp only [Int.toNat_natCast]
      refine ⟨fun _ => ?_, fun h => absurd hc (by omega)⟩
      rw [br_bf]
      refine ⟨fun hz => ?_, fun hz => ⟨fits64 (by omega) (by omega), ?_⟩⟩
      · rw [hz, Bool.false_or] at hK
        have hcl := (hsp _ (List.getElem_mem hc)).2.1
        exact ⟨⟨by omega, hc⟩, hc, ⟨by show (fewL (mm : Int) pots)[c].length ≤ 1152921504606846976; omega, by show (listed b mm).length ≤ 1152921504606846976; omega⟩, fits64 (by omega) (by omega), hK⟩
      · rw [hz, Bool.true_or] at hK; exact hK
    · intro K _
      dsimp only
      rw [br_decide, List.take_length, hamong]
      refine ⟨fun h => absurd h (by omega), fun _ => ?_⟩
      refine Loop.upto (fun c => ((b : Int), true, (c : Int), listed b mm, fewL (mm : Int) pots, neededL (mm : Int) pots, ())) (fun c => True) (neededL (mm : Int) pots).length rfl trivial ?_ ?_
      · intro c K2 hc _ hK2
        have hK2 := hK2 trivial
        dsimp only
        rw [br_decide]
        simp only [Int.toNat_natCast]
        have hin2 := needed_in hf hown hh (List.getElem_mem hc)
        obtain ⟨j, hj, hjm, hjt⟩ := mem_listed hin2
        refine ⟨fun _ => ⟨fits64 (by omega) (by omega), ⟨by omega, hc⟩, hc, by omega, ?_⟩, fun h => absurd hc (by omega)⟩
        have hz := bit_zero b j (by omega)
        rw [hjt] at hz
        simp only [hj, hz, Bool.not_true, br_f]
        exact ⟨fits64 (by omega) (by omega), hK2⟩
      · intro K2 _
        dsimp only
        rw [br_decide]
        refine ⟨fun h => absurd h (by omega), fun _ => ⟨⟨by omega, hpos⟩, hpos, ?_⟩⟩
        have d1 : decide (((listed b mm).length : Int) ≥ ((fewL (mm : Int) pots)[0].length : Int)) = true := decide_eq_true (by omega)
        simp only [d1, tt1, br_t]
        exact ⟨trivial, hk⟩
end Go.Abs.King
end

section
/- Conditions and their equations, printed by a program: sixth part. -/
open Go.Proofs
set_option maxRecDepth 100000
set_option linter.unusedVariables false
namespace Go.Abs.King
def vc14  (k : AVal → List Cont → Prop) : Prop :=
  (Go.Abs.King.v50.p ()) ∧
  (Go.Abs.King.v51.p ()) ∧
  (Go.Abs.King.v47.p (((0 : Int) :: ([] : List Int)), ())) ∧
  (Go.Abs.King.v18.p ((3 : Int), ((((0 : Int) :: ((0 : Int) :: ((1 : Int) :: ([] : List Int)))) :: (((0 : Int) :: ((1 : Int) :: ((1 : Int) :: ([] : List Int)))) :: (((1 : Int) :: ((0 : Int) :: ((0 : Int) :: ([] : List Int)))) :: (((1 : Int) :: ((1 : Int) :: ((1 : Int) :: ([] : List Int)))) :: ([] : List (List Int)))))), (((0 : Int) :: ([] : List Int)), ())))) ∧
  (Go.Abs.King.v18.p ((3 : Int), ((((0 : Int) :: ((0 : Int) :: ((1 : Int) :: ([] : List Int)))) :: (((0 : Int) :: ((1 : Int) :: ((1 : Int) :: ([] : List Int)))) :: (((1 : Int) :: ((0 : Int) :: ((0 : Int) :: ([] : List Int)))) :: (((1 : Int) :: ((1 : Int) :: ((1 : Int) :: ([] : List Int)))) :: ([] : List (List Int)))))), (([] : List Int), ())))) ∧
  (Go.Abs.King.v27.p ((2 : Int), ((((0 : Int) :: ((0 : Int) :: ([] : List Int))) :: (((1 : Int) :: ((1 : Int) :: ([] : List Int))) :: (((0 : Int) :: ((0 : Int) :: ([] : List Int))) :: ([] : List (List Int))))), ()))) ∧
  (Go.Abs.King.v47.p (((-(1 : Int) : Int) :: ((1 : Int) :: ((0 : Int) :: ([] : List Int)))), ())) ∧
  (Go.Abs.King.v20.p ((3 : Int), ((((0 : Int) :: ((0 : Int) :: ((1 : Int) :: ([] : List Int)))) :: (((0 : Int) :: ((1 : Int) :: ((1 : Int) :: ([] : List Int)))) :: (((1 : Int) :: ((0 : Int) :: ((0 : Int) :: ([] : List Int)))) :: (((1 : Int) :: ((1 : Int) :: ((1 : Int) :: ([] : List Int)))) :: ([] : List (List Int)))))), (((-(1 : Int) : Int) :: ((1 : Int) :: ((0 : Int) :: ([] : List Int)))), ())))) ∧
  (Go.Abs.King.v47.p (((-(1 : Int) : Int) :: ((1 : Int) :: ((-(1 : Int) : Int) :: ([] : List Int)))), ())) ∧
  (Go.Abs.King.v30.p ((3 : Int), ((((0 : Int) :: ((0 : Int) :: ((1 : Int) :: ([] : List Int)))) :: (((0 : Int) :: ((1 : Int) :: ((1 : Int) :: ([] : List Int)))) :: (((1 : Int) :: ((0 : Int) :: ((0 : Int) :: ([] : List Int)))) :: (((1 : Int) :: ((1 : Int) :: ((1 : Int) :: ([] : List Int)))) :: ([] : List (List Int)))))), (((-(1 : Int) : Int) :: ((1 : Int) :: ((-(1 : Int) : Int) :: ([] : List Int)))), ())))) ∧
  (Go.Abs.King.v47.p (((1 : Int) :: ((1 : Int) :: ((-(1 : Int) : Int) :: ([] : List Int)))), ())) ∧
  (Go.Abs.King.v30.p ((3 : Int), ((((0 : Int) :: ((0 : Int) :: ((1 : Int) :: ([] : List Int)))) :: (((0 : Int) :: ((1 : Int) :: ((1 : Int) :: ([] : List Int)))) :: (((1 : Int) :: ((0 : Int) :: ((0 : Int) :: ([] : List Int)))) :: (((1 : Int) :: ((1 : Int) :: ((1 : Int) :: ([] : List Int)))) :: ([] : List (List Int)))))), (((1 : Int) :: ((1 : Int) :: ((-(1 : Int) : Int) :: ([] : List Int)))), ())))) ∧
  (Go.Abs.King.v47.p (((1 : Int) :: ((-(1 : Int) : Int) :: ([] : List Int))), ())) ∧
  (Go.Abs.King.v30.p ((2 : Int), ((((0 : Int) :: ((0 : Int) :: ([] : List Int))) :: (((1 : Int) :: ((1 : Int) :: ([] : List Int))) :: (((0 : Int) :: ((0 : Int) :: ([] : List Int))) :: ([] : List (List Int))))), (((1 : Int) :: ((-(1 : Int) : Int) :: ([] : List Int))), ())))) ∧
  (Go.Abs.King.v47.p (((-(1 : Int) : Int) :: ((-(1 : Int) : Int) :: ((-(1 : Int) : Int) :: ([] : List Int)))), ())) ∧
  (Go.Abs.King.v32.p ((3 : Int), ((((0 : Int) :: ((0 : Int) :: ((1 : Int) :: ([] : List Int)))) :: (((0 : Int) :: ((1 : Int) :: ((1 : Int) :: ([] : List Int)))) :: (((1 : Int) :: ((0 : Int) :: ((0 : Int) :: ([] : List Int)))) :: (((1 : Int) :: ((1 : Int) :: ((1 : Int) :: ([] : List Int)))) :: ([] : List (List Int)))))), (((-(1 : Int) : Int) :: ((-(1 : Int) : Int) :: ((-(1 : Int) : Int) :: ([] : List Int)))), ())))) ∧
  (Go.Abs.King.v47.p (((0 : Int) :: ([] : List Int)), ())) ∧
  (Go.Abs.King.v52.p ((1 : Int), ((((0 : Int) :: ([] : List Int)) :: ([] : List (List Int))), ()))) ∧
  (Go.Abs.King.v35.p ((1 : Int), ((((0 : Int) :: ([] : List Int)) :: ([] : List (List Int))), (([] : List (Int × (List Int))), ())))) ∧
  (Go.Abs.King.v22.p ((3 : Int), ((((0 : Int) :: ((0 : Int) :: ((1 : Int) :: ([] : List Int)))) :: (((0 : Int) :: ((1 : Int) :: ((1 : Int) :: ([] : List Int)))) :: (((1 : Int) :: ((0 : Int) :: ((0 : Int) :: ([] : List Int)))) :: (((1 : Int) :: ((1 : Int) :: ((1 : Int) :: ([] : List Int)))) :: ([] : List (List Int)))))), ()))) ∧
  (Go.Abs.King.v17.p ()) ∧
  (k (Go.Abs.AVal.bool Bool.true) [])
theorem eq14  (k : AVal → List Cont → Prop) : awpF (envOf [(50, mkC [v50]), (51, mkC [v51]), (47, mkC [v47]), (18, mkC [v18]), (27, mkC [v27]), (20, mkC [v20]), (30, mkC [v30]), (32, mkC [v32]), (52, mkC [v52]), (35, mkC [v35]), (22, mkC [v22]), (17, mkC [v17])]) Try.prog kt 14 false Try.f14 (v14.S.enc Unit ()).1 [] k = vc14  k := by kernel_rfl
theorem tx14 : (Try.f14.body.map Code.textsOk).getD true = true := by kernel_rfl

def vc9 (m : Int) (pots : List (List Int)) (which bits : Int) (k : AVal → List Cont → Prop) : Prop :=
  (Go.Abs.King.v40.p (m, (pots, ()))) ∧
  br (((Bool.not (Go.Abs.King.fineB m pots)) == Bool.false))
   ((Go.Abs.King.v38.p (m, (pots, ()))) ∧
   br (((Go.Abs.King.treeErrE m pots) != (0 : Int)))
    ((Go.Abs.King.v17.p ()) ∧
    (k (Go.Abs.AVal.bool Bool.true) []))
    ((Go.Abs.fitsK Go.IntKind.i64 which) ∧
    (((0 : Int) ≤ which) ∧ ((0 : Int) < (((List.length pots) : Nat) : Int))) ∧
    (Go.Abs.King.v46.p (m, (pots, ((HMod.hMod which (((List.length pots) : Nat) : Int)), (bits, ()))))) ∧
    (Go.Abs.King.v30.p (m, (pots, ((Go.Abs.King.seenOf pots (Int.toNat m) (Int.toNat (HMod.hMod which (((List.length pots) : Nat) : Int))) (Int.toNat bits)), ())))) ∧
    br ((((Go.Abs.King.seenErr m pots (Go.Abs.King.seenOf pots (Int.toNat m) (Int.toNat (HMod.hMod which (((List.length pots) : Nat) : Int))) (Int.toNat bits))) != (0 : Int)) == Bool.false))
     (br (((decide ((Go.Abs.King.looksE m pots (Go.Abs.King.seenOf pots (Int.toNat m) (Int.toNat (HMod.hMod which (((List.length pots) : Nat) : Int))) (Int.toNat bits))) < (0 : Int))) == Bool.false))
      (br ((decide ((Go.Abs.King.looksE m pots (Go.Abs.King.seenOf pots (Int.toNat m) (Int.toNat (HMod.hMod which (((List.length pots) : Nat) : Int))) (Int.toNat bits))) > m)))
       ((k (Go.Abs.AVal.bool Bool.false) []))
       (Go.Abs.Loop (σ := (Int × (Int × (Int × ((List (List Int)) × ((List Int) × Unit)))))) (fun K5 x5 =>
         br ((decide (x5.2.1 > (0 : Int))))
          ((Go.Abs.King.v32.p (x5.2.2.1, (x5.2.2.2.1, (x5.2.2.2.2.1, ())))) ∧
          br ((((Go.Abs.King.nextE x5.2.2.1 x5.2.2.2.1 x5.2.2.2.2.1) != (0 : Int)) == Bool.false))
           (br (((decide ((Go.Abs.King.nextN x5.2.2.1 x5.2.2.2.1 x5.2.2.2.2.1) < (0 : Int))) == Bool.false))
            (br (((decide ((Go.Abs.King.nextN x5.2.2.1 x5.2.2.2.1 x5.2.2.2.2.1) ≥ x5.2.2.1)) == Bool.false))
             ((((0 : Int) ≤ (Go.Abs.King.nextN x5.2.2.1 x5.2.2.2.1 x5.2.2.2.2.1)) ∧ ((Int.toNat (Go.Abs.King.nextN x5.2.2.1 x5.2.2.2.1 x5.2.2.2.2.1)) < (List.length x5.2.2.2.2.1))) ∧
             ∃ h7 : ((Int.toNat (Go.Abs.King.nextN x5.2.2.1 x5.2.2.2.1 x5.2.2.2.2.1)) < (List.length x5.2.2.2.2.1)),
             br ((decide ((x5.2.2.2.2.1[(Int.toNat (Go.Abs.King.nextN x5.2.2.1 x5.2.2.2.1 x5.2.2.2.2.1))]'h7) ≥ (0 : Int))))
              ((k (Go.Abs.AVal.bool Bool.false) []))
              (∃ h8 : (((0 : Int) ≤ x5.1) ∧ ((Int.toNat x5.1) < (List.length x5.2.2.2.1))),
              ∃ h9 : (((0 : Int) ≤ (Go.Abs.King.nextN x5.2.2.1 x5.2.2.2.1 x5.2.2.2.2.1)) ∧ ((Int.toNat (Go.Abs.King.nextN x5.2.2.1 x5.2.2.2.1 x5.2.2.2.2.1)) < (List.length (x5.2.2.2.1[(Int.toNat x5.1)]'h8.2)))),
              (((0 : Int) ≤ (Go.Abs.King.nextN x5.2.2.1 x5.2.2.2.1 x5.2.2.2.2.1)) ∧ ((Int.toNat (Go.Abs.King.nextN x5.2.2.1 x5.2.2.2.1 x5.2.2.2.2.1)) < (List.length x5.2.2.2.2.1))) ∧
              ∃ h10 : ((Int.toNat (Go.Abs.King.nextN x5.2.2.1 x5.2.2.2.1 x5.2.2.2.2.1)) < (List.length x5.2.2.2.2.1)),
              (Go.Abs.King.v30.p (x5.2.2.1, (x5.2.2.2.1, ((List.set x5.2.2.2.2.1 (Int.toNat (Go.Abs.King.nextN x5.2.2.1 x5.2.2.2.1 x5.2.2.2.2.1)) ((x5.2.2.2.1[(Int.toNat x5.1)]'h8.2)[(Int.toNat (Go.Abs.King.nextN x5.2.2.1 x5.2.2.2.1 x5.2.2.2.2.1))]'h9.2)), ())))) ∧
              br ((((Go.Abs.King.seenErr x5.2.2.1 x5.2.2.2.1 (List.set x5.2.2.2.2.1 (Int.toNat (Go.Abs.King.nextN x5.2.2.1 x5.2.2.2.1 x5.2.2.2.2.1)) ((x5.2.2.2.1[(Int.toNat x5.1)]'h8.2)[(Int.toNat (Go.Abs.King.nextN x5.2.2.1 x5.2.2.2.1 x5.2.2.2.2.1))]'h9.2))) != (0 : Int)) == Bool.false))
               (br (((decide ((Go.Abs.King.looksE x5.2.2.1 x5.2.2.2.1 (List.set x5.2.2.2.2.1 (Int.toNat (Go.Abs.King.nextN x5.2.2.1 x5.2.2.2.1 x5.2.2.2.2.1)) ((x5.2.2.2.1[(Int.toNat x5.1)]'h8.2)[(Int.toNat (Go.Abs.King.nextN x5.2.2.1 x5.2.2.2.1 x5.2.2.2.2.1))]'h9.2))) < (0 : Int))) == Bool.false))
                (br ((decide ((Go.Abs.King.looksE x5.2.2.1 x5.2.2.2.1 (List.set x5.2.2.2.2.1 (Int.toNat (Go.Abs.King.nextN x5.2.2.1 x5.2.2.2.1 x5.2.2.2.2.1)) ((x5.2.2.2.1[(Int.toNat x5.1)]'h8.2)[(Int.toNat (Go.Abs.King.nextN x5.2.2.1 x5.2.2.2.1 x5.2.2.2.2.1))]'h9.2))) ≥ x5.2.1)))
                 ((k (Go.Abs.AVal.bool Bool.false) []))
                 ((K5 (x5.1, ((Go.Abs.King.looksE x5.2.2.1 x5.2.2.2.1 (List.set x5.2.2.2.2.1 (Int.toNat (Go.Abs.King.nextN x5.2.2.1 x5.2.2.2.1 x5.2.2.2.2.1)) ((x5.2.2.2.1[(Int.toNat x5.1)]'h8.2)[(Int.toNat (Go.Abs.King.nextN x5.2.2.1 x5.2.2.2.1 x5.2.2.2.2.1))]'h9.2))), (x5.2.2.1, (x5.2.2.2.1, ((List.set x5.2.2.2.2.1 (Int.toNat (Go.Abs.King.nextN x5.2.2.1 x5.2.2.2.1 x5.2.2.2.2.1)) ((x5.2.2.2.1[(Int.toNat x5.1)]'h8.2)[(Int.toNat (Go.Abs.King.nextN x5.2.2.1 x5.2.2.2.1 x5.2.2.2.2.1))]'h9.2)), ()))))))))
                ((k (Go.Abs.AVal.bool Bool.false) [])))
               ((k (Go.Abs.AVal.bool Bool.false) []))))
             ((k (Go.Abs.AVal.bool Bool.false) [])))
            ((k (Go.Abs.AVal.bool Bool.false) [])))
           ((k (Go.Abs.AVal.bool Bool.false) [])))
          ((Go.Abs.King.v20.p (x5.2.2.1, (x5.2.2.2.1, (x5.2.2.2.2.1, ())))) ∧
          (Go.Abs.King.v32.p (x5.2.2.1, (x5.2.2.2.1, (x5.2.2.2.2.1, ())))) ∧
          br ((((Go.Abs.King.seenErr x5.2.2.1 x5.2.2.2.1 x5.2.2.2.2.1) == (0 : Int)) == Bool.true))
           ((Go.Abs.King.v47.p ((x5.1 :: ([] : List Int)), ())) ∧
           (Go.Abs.King.v24.p ((Go.Abs.King.seenL x5.2.2.1 x5.2.2.2.1 x5.2.2.2.2.1), ((x5.1 :: ([] : List Int)), ()))) ∧
           br (((Go.Abs.King.eqL (Go.Abs.King.seenL x5.2.2.1 x5.2.2.2.1 x5.2.2.2.2.1) (x5.1 :: ([] : List Int))) == Bool.true))
            (br ((((Go.Abs.King.nextE x5.2.2.1 x5.2.2.2.1 x5.2.2.2.2.1) == (5 : Int)) == Bool.true))
             ((Go.Abs.King.v17.p ()) ∧
             (k (Go.Abs.AVal.bool Bool.true) []))
             ((k (Go.Abs.AVal.bool Bool.false) [])))
            ((k (Go.Abs.AVal.bool Bool.false) [])))
           ((k (Go.Abs.AVal.bool Bool.false) [])))) (((HMod.hMod which (((List.length pots) : Nat) : Int)), ((Go.Abs.King.looksE m pots (Go.Abs.King.seenOf pots (Int.toNat m) (Int.toNat (HMod.hMod which (((List.length pots) : Nat) : Int))) (Int.toNat bits))), (m, (pots, ((Go.Abs.King.seenOf pots (Int.toNat m) (Int.toNat (HMod.hMod which (((List.length pots) : Nat) : Int))) (Int.toNat bits)), ()))))))))
      ((k (Go.Abs.AVal.bool Bool.false) [])))
     ((k (Go.Abs.AVal.bool Bool.false) []))))
   ((Go.Abs.King.v17.p ()) ∧
   (k (Go.Abs.AVal.bool Bool.true) []))
theorem eq9 (m : Int) (pots : List (List Int)) (which bits : Int) (k : AVal → List Cont → Prop) : awpF (envOf [(40, mkC [v40]), (38, mkC [v38]), (17, mkC [v17]), (46, mkC [v46]), (30, mkC [v30]), (32, mkC [v32]), (20, mkC [v20]), (47, mkC [v47]), (24, mkC [v24])]) Try.prog kt 9 false Try.f9 (v9.S.enc Unit (m, pots, which, bits, ())).1 [] k = vc9 m pots which bits k := by kernel_rfl
theorem tx9 : (Try.f9.body.map Code.textsOk).getD true = true := by kernel_rfl

end Go.Abs.King
end

section
/- The king's statements: a pot is found by the looks that are needed. -/
open Go.Proofs
set_option maxRecDepth 100000
set_option linter.unusedVariables false
namespace Go.Abs.King

theorem agree_test {pots : List (List Int)} {m : Nat} {seen : List Int} (i : Nat) : B (agree pots m seen) i ↔ i < pots.length ∧ ∀ k, k < m → seen.getD k 0 < 0 ∨ seen.getD k 0 = mk pots i k := by
  unfold B agree
  rw [bitsOf_test]
  simp only [Bool.and_eq_true, decide_eq_true_eq, List.all_eq_true, List.mem_range]
theorem bits_ext {a b : Nat} (h : ∀ i, B a i ↔ B b i) : a = b := Nat.eq_of_testBit_eq (fun i => by rw [Bool.eq_iff_iff]; exact h i)
theorem agree_set {pots : List (List Int)} {m : Nat} {seen : List Int} {j : Nat} {v : Int} (hl : seen.length = m) (hj : j < m) (hs : seen.getD j 0 < 0) (hv : 0 ≤ v) : agree pots m (seen.set j v) = partOf pots (agree pots m seen) j v := by
  refine bits_ext (fun i => ?_)
  rw [part_set (agree_lt pots m seen), agree_test, agree_test]
  constructor
  · rintro ⟨h1, h2⟩
    have h3 := h2 j hj
    rw [getD_set _ _ _ _ _ (by omega), if_pos rfl] at h3
    refine ⟨⟨h1, fun k hk => ?_⟩, by omega⟩
    by_cases e : j = k
    · subst e; exact Or.inl hs
    · have := h2 k hk
      rw [getD_set _ _ _ _ _ (by omega), if_neg e] at this
      exact this
  · rintro ⟨⟨h1, h2⟩, h3⟩
    refine ⟨h1, fun k hk => ?_⟩
    rw [getD_set _ _ _ _ _ (by omega)]
    by_cases e : j = k
    · subst e; rw [if_pos rfl]; exact Or.inr h3.symm
    · rw [if_neg e]; exact h2 k hk
theorem seenErr_ok {m : Nat} {pots : List (List Int)} {seen : List Int} (hf : checkShelf (m : Int) pots = 0) (hl : seen.length = m) (hv : ∀ x ∈ seen, -1 ≤ x ∧ x ≤ 4) : seenErr (m : Int) pots seen = 0 := by
  unfold seenErr
  rw [if_neg (not_not_intro hf), if_neg (by omega), if_neg]
  have : within (-1) 4 seen = true := by
    unfold within
    exact List.all_eq_true.2 (fun x hx => decide_eq_true (hv x hx))
  rw [this]; simp
theorem mk_val {m : Nat} {pots : List (List Int)} (hf : checkShelf (m : Int) pots = 0) {i j : Nat} (hi : i < pots.length) (hj : j < m) : ∃ (h : j < pots[i].length), mk pots i j = pots[i][j] ∧ 0 ≤ mk pots i j ∧ mk pots i j ≤ 4 := by
  obtain ⟨f1, f2, f3, f4⟩ := fine_spec hf
  have hlen := f3 _ (List.getElem_mem hi)
  have hjl : j < pots[i].length := by omega
  refine ⟨hjl, mk_eq hi hjl, ?_⟩
  rw [mk_eq hi hjl]
  exact f4 _ (List.getElem_mem hi) _ (List.getElem_mem hjl)
theorem only_one {b n p : Nat} (hb : b < 2 ^ n) (hp : B b p) (h : ∀ i k, B b i → B b k → i = k) : listed b n = [(p : Int)] := by
  have hc := cnt_big hb h
  have hm := (mem_listed' hb p).2 hp
  unfold cnt at hc
  match hl : listed b n with
  | [] => rw [hl] at hm; simp at hm
  | [x] => rw [hl] at hm; rw [List.mem_singleton.1 hm]
  | x :: y :: l => rw [hl] at hc; simp only [List.length_cons] at hc; omega

/-- What was seen of a pot. -/
structure SeenOf (pots : List (List Int)) (m p : Nat) (seen : List Int) : Prop where
  len : seen.length = m
  val : ∀ j, j < m → seen.getD j 0 = -1 ∨ seen.getD j 0 = mk pots p j
theorem SeenOf.err {pots : List (List Int)} {m p : Nat} {seen : List Int} (h : SeenOf pots m p seen) (hf : checkShelf (m : Int) pots = 0) (hp : p < pots.length) : seenErr (m : Int) pots seen = 0 := by
  refine seenErr_ok hf h.len (fun x hx => ?_)
  obtain ⟨j, hj, rfl⟩ := List.getElem_of_mem hx
  have hj' : j < m := by have := h.len; omega
  obtain ⟨_, _, h1, h2⟩ := mk_val hf hp hj'
  rw [← getD_lt _ _ hj]
  rcases h.val j hj' with e | e <;> omega
theorem SeenOf.mem {pots : List (List Int)} {m p : Nat} {seen : List Int} (h : SeenOf pots m p seen) (hp : p < pots.length) : B (agree pots m seen) p := by
  rw [agree_test]
  refine ⟨hp, fun k hk => ?_⟩
  rcases h.val k hk with e | e
  · left; omega
  · exact Or.inr e
theorem seenOf_set {pots : List (List Int)} {m p : Nat} {seen : List Int} (h : SeenOf pots m p seen) {j : Nat} (hj : j < m) : SeenOf pots m p (seen.set j (mk pots p j)) := by
  refine ⟨by rw [List.length_set]; exact h.len, fun k hk => ?_⟩
  rw [getD_set _ _ _ _ _ (by have := h.len; omega)]
  by_cases e : j = k
  · subst e; rw [if_pos rfl]; exact Or.inr rfl
  · rw [if_neg e]; exact h.val k hk
theorem seenOf_ok (pots : List (List Int)) (m p bits : Nat) : SeenOf pots m p (seenOf pots m p bits) := by
  refine ⟨by simp [seenOf], fun j hj => ?_⟩
  rw [getD_lt _ _ (by simp [seenOf]; exact hj)]
  unfold seenOf
  rw [List.getElem_map, List.getElem_range]
  split
  · exact Or.inr rfl
  · exact Or.inl rfl
/-- A mark that parts some pots was not looked at. -/
theorem unseen_of {m p : Nat} {pots : List (List Int)} {seen : List Int} (hf : checkShelf (m : Int) pots = 0) (h : SeenOf pots m p seen) (hp : p < pots.length) {j : Nat} (hj : j < m) (hw : 0 ≤ worstOf (looks pots m) pots (agree pots m seen) j) : seen.getD j 0 < 0 := by
  rcases h.val j hj with e | e
  · omega
  · exfalso
    obtain ⟨_, _, h1, h2⟩ := mk_val hf hp hj
    have hne := (worst_nonneg hw).1 (mk pots p j).toNat (by omega)
    refine hne (bits_ext (fun i => ?_))
    rw [part_set (agree_lt pots m seen)]
    refine ⟨fun h => h.1, fun hb => ⟨hb, ?_⟩⟩
    rcases (agree_test i).1 hb |>.2 j hj with h3 | h3
    · omega
    · omega
theorem looksE_ok {m : Nat} {pots : List (List Int)} {seen : List Int} (h : seenErr (m : Int) pots seen = 0) : looksE (m : Int) pots seen = looks pots m (agree pots m seen) := by
  unfold looksE
  rw [if_neg (not_not_intro h)]; rfl

theorem k9 (hG : Good Try.prog (envOf [(40, mkC [v40]), (38, mkC [v38]), (17, mkC [v17]), (46, mkC [v46]), (30, mkC [v30]), (32, mkC [v32]), (20, mkC [v20]), (47, mkC [v47]), (24, mkC [v24])])) : v9.Kept Try.prog 9 := by
  rintro ⟨m, pots, which, bits, ⟨⟩⟩ hpre k hk
  change List (List Int) at pots
  change Int at m which bits
  refine aspec hmix hG Try.func9 tx9 (Eq.mpr (eq9 m pots which bits k) ?_)
  replace hk : k (.bool true) [] := hk
  have hw0 : 0 ≤ which := hpre.1.1
  have hw1 : which ≤ 255 := hpre.1.2
  have hb0 : 0 ≤ bits := hpre.2.1
  have hb1 : bits ≤ 255 := hpre.2.2
  unfold vc9
  refine ⟨trivial, br_intro (fun h1 => ?_) (fun h1 => ⟨trivial, hk⟩)⟩
  obtain ⟨hf, hs⟩ := fine_of (notfine_f (eq_of_beq h1))
  obtain ⟨f1, f2, f3, f4⟩ := fine_spec hf
  obtain ⟨mm, rfl⟩ := Int.eq_ofNat_of_zero_le (show 0 ≤ m by omega)
  rw [Int.toNat_natCast, br_bne]
  refine ⟨hs, fun _ => ⟨trivial, hk⟩, fun hte => ?_⟩
  have htold : Told pots mm (fun i => i < pots.length) := by
    refine told_all.1 ?_
    unfold treeErrE at hte
    rw [if_neg (not_not_intro hf)] at hte
    split at hte
    · assumption
    · omega
  have hm0 : 0 ≤ which % (pots.length : Int) := Int.emod_nonneg _ (by omega)
  have hm1 : which % (pots.length : Int) < (pots.length : Int) := Int.emod_lt_of_pos _ (by omega)
  obtain ⟨p, hp⟩ := Int.eq_ofNat_of_zero_le hm0
  rw [hp] at hm1
  have hpn : p < pots.length := by omega
  rw [hp, Int.toNat_natCast]
  have h46 : v46.pre ((mm : Int), pots, (p : Int), bits, ()) := ⟨hf, ⟨by show (0 : Int) ≤ (p : Int); omega, by show (p : Int) < (pots.length : Int); omega⟩, hb0, hb1⟩
  have hall : ∀ seen, SeenOf pots mm p seen → seenErr (mm : Int) pots seen = 0 ∧ looksE (mm : Int) pots seen = looks pots mm (agree pots mm seen) ∧ 0 ≤ looks pots mm (agree pots mm seen) ∧ looks pots mm (agree pots mm seen) ≤ (mm : Int) ∧ smallS pots ∧ seen.length ≤ 1152921504606846976 := by
    intro seen h
    have he := h.err hf hpn
    refine ⟨he, looksE_ok he, ?_, looks_le_m hf (agree_lt _ _ _), hs, by have := h.len; omega⟩
    refine (told_looks hf (agree_lt _ _ _)).2 (fun i t hi ht hne => htold i t ((agree_test i).1 hi).1 ((agree_test t).1 ht).1 hne)
  have hso := seenOf_ok pots mm p bits.toNat
  obtain ⟨a1, a2, a3, a4, a5, a6⟩ := hall _ hso
  refine ⟨fits64 (by omega) (by omega), ⟨hw0, by omega⟩, h46, ⟨a5, a6⟩, ?_⟩
  rw [a1, n00, ff1, br_t, a2]
  have d1 : decide (looks pots mm (agree pots mm (seenOf pots mm p bits.toNat)) < 0) = false := decide_eq_false (by omega)
  have d2 : decide (looks pots mm (agree pots mm (seenOf pots mm p bits.toNat)) > (mm : Int)) = false := decide_eq_false (by omega)
  rw [d1, d2, ff1, br_t, br_f]
  refine Loop.intro (fun x => ∃ seen, SeenOf pots mm p seen ∧ x = ((p : Int), looks pots mm (agree pots mm seen), (mm : Int), pots, seen, ())) (fun x => x.2.1.toNat) ?_ ⟨_, hso, rfl⟩
  rintro x K ⟨seen, hsn, rfl⟩ hK
  obtain ⟨a1, a2, a3, a4, a5, a6⟩ := hall _ hsn
  have hlen := hsn.len
  dsimp only
  rw [br_decide]
  refine ⟨fun hpos => ?_, fun hz => ?_⟩
  · have hE : nextE (mm : Int) pots seen = 0 := by
      unfold nextE
      rw [if_neg (not_not_intro a1), Int.toNat_natCast, if_neg (by omega), if_neg (by omega)]
    have hN : nextN (mm : Int) pots seen = (firstN pots mm (agree pots mm seen) : Int) := by
      unfold nextN
      rw [if_neg (not_not_intro hE), Int.toNat_natCast]
    obtain ⟨s1, s2, s3⟩ := firstN_spec (show 1 ≤ looks pots mm (agree pots mm seen) by omega)
    have hun := unseen_of hf hsn hpn s1 s2
    generalize firstN pots mm (agree pots mm seen) = j at hN s1 s2 s3 hun
    obtain ⟨hjl, hv1, hv2, hv3⟩ := mk_val hf hpn s1
    have hset := seenOf_set hsn s1
    have hag := agree_set (pots := pots) hlen s1 hun hv2
    obtain ⟨b1, b2, b3, b4, b5, b6⟩ := hall _ hset
    have hlt : looks pots mm (agree pots mm (seen.set j (mk pots p j))) < looks pots mm (agree pots mm seen) := by
      rw [hag]
      have := worst_ge s2 (mk pots p j).toNat (by omega)
      have e : (((mk pots p j).toNat : Nat) : Int) = mk pots p j := by omega
      rw [e] at this
      omega
    have hjs : j < seen.length := by omega
    refine ⟨⟨a5, a6⟩, ?_⟩
    rw [hE, n00, ff1, br_t]
    simp only [hN]
    have e1 : decide ((j : Int) < 0) = false := decide_eq_false (by omega)
    have e2 : decide ((j : Int) ≥ (mm : Int)) = false := decide_eq_false (by omega)
    rw [e1, e2, ff1, br_t, br_t]
    simp only [Int.toNat_natCast]
    refine ⟨⟨by omega, hjs⟩, hjs, ?_⟩
    rw [getD_lt _ _ hjs] at hun
    rw [br_decide]
    refine ⟨fun h => absurd h (by omega), fun _ => ⟨⟨by omega, hpn⟩, ⟨by omega, hjl⟩, ⟨by omega, hjs⟩, hjs, ?_⟩⟩
    simp only [← hv1]
    refine ⟨⟨b5, b6⟩, ?_⟩
    rw [b1, n00, ff1, br_t, b2]
    have e3 : decide (looks pots mm (agree pots mm (seen.set j (mk pots p j))) < 0) = false := decide_eq_false (by omega)
    have e4 : decide (looks pots mm (agree pots mm (seen.set j (mk pots p j))) ≥ looks pots mm (agree pots mm seen)) = false := decide_eq_false (by omega)
    rw [e3, e4, ff1, br_t, br_f]
    refine hK _ ⟨_, hset, rfl⟩ ?_
    show (looks pots mm (agree pots mm (seen.set j (mk pots p j)))).toNat < (looks pots mm (agree pots mm seen)).toNat
    omega
  · have hz0 : looks pots mm (agree pots mm seen) = 0 := by omega
    have ht := (looks_iff hf (agree_lt pots mm seen) 0).2 (by omega)
    have hone := only_one (agree_lt pots mm seen) (hsn.mem hpn) ht
    have hL : seenL (mm : Int) pots seen = [(p : Int)] := by
      unfold seenL
      rw [if_neg (not_not_intro a1), Int.toNat_natCast]; exact hone
    have hE : nextE (mm : Int) pots seen = 5 := by
      unfold nextE
      rw [if_neg (not_not_intro a1), Int.toNat_natCast, if_pos hz0]
    refine ⟨⟨a5, a6⟩, ⟨a5, a6⟩, ?_⟩
    rw [a1, e00, tt1, br_t, hL, hE]
    have e5 : eqL [(p : Int)] [(p : Int)] = true := decide_eq_true rfl
    refine ⟨trivial, ⟨by show [(p : Int)].length ≤ 1152921504606846976; simp, by show [(p : Int)].length ≤ 1152921504606846976; simp⟩, ?_⟩
    rw [e5, tt1, br_t]
    exact ⟨trivial, hk⟩
end Go.Abs.King
end

section
/- Conditions and their equations, printed by a program: sixth part. -/
open Go.Proofs
set_option maxRecDepth 100000
set_option linter.unusedVariables false
namespace Go.Abs.King
def vc12 (m : Int) (pots : List (List Int)) (marks pt values : Int) (k : AVal → List Cont → Prop) : Prop :=
  (Go.Abs.King.v40.p (m, (pots, ()))) ∧
  br ((Bool.not (Go.Abs.King.fineB m pots)))
   ((Go.Abs.King.v17.p ()) ∧
   (k (Go.Abs.AVal.bool Bool.true) []))
   (Go.Abs.Loop (σ := (Int × (Int × (Int × (Int × (Int × ((List (List Int)) × (Int × ((List (List Int)) × Unit))))))))) (fun K6 x6 =>
     br ((decide (x6.2.2.2.1 < (((List.length x6.2.2.2.2.2.1) : Nat) : Int))))
      ((Go.Abs.fitsK Go.IntKind.i64 x6.2.1) ∧
      (Go.Abs.fitsK Go.IntKind.i64 (x6.2.2.2.1 + x6.2.1)) ∧
      (((0 : Int) ≤ (x6.2.2.2.1 + x6.2.1)) ∧ ((0 : Int) < (((List.length x6.2.2.2.2.2.1) : Nat) : Int))) ∧
      ∃ h8 : (((0 : Int) ≤ (HMod.hMod (x6.2.2.2.1 + x6.2.1) (((List.length x6.2.2.2.2.2.1) : Nat) : Int))) ∧ ((Int.toNat (HMod.hMod (x6.2.2.2.1 + x6.2.1) (((List.length x6.2.2.2.2.2.1) : Nat) : Int))) < (List.length x6.2.2.2.2.2.1))),
      Go.Abs.Loop (σ := (Int × (Int × (Int × (Int × (Int × (Int × ((List (List Int)) × (Int × ((List Int) × ((List Int) × ((List (List Int)) × Unit)))))))))))) (fun K9 x9 =>
        br ((decide (x9.2.2.2.2.1 < x9.2.2.2.2.2.1)))
         ((Go.Abs.fitsK Go.IntKind.i64 x9.1) ∧
         (Go.Abs.fitsK Go.IntKind.i64 (x9.2.2.2.2.1 + x9.1)) ∧
         (((0 : Int) ≤ (x9.2.2.2.2.1 + x9.1)) ∧ ((0 : Int) < x9.2.2.2.2.2.1)) ∧
         ∃ h11 : (((0 : Int) ≤ (HMod.hMod (x9.2.2.2.2.1 + x9.1) x9.2.2.2.2.2.1)) ∧ ((Int.toNat (HMod.hMod (x9.2.2.2.2.1 + x9.1) x9.2.2.2.2.2.1)) < (List.length x9.2.2.2.2.2.2.2.2.1))),
         (Go.Abs.fitsK Go.IntKind.i64 x9.2.2.1) ∧
         (Go.Abs.fitsK Go.IntKind.i64 ((x9.2.2.2.2.2.2.2.2.1[(Int.toNat (HMod.hMod (x9.2.2.2.2.1 + x9.1) x9.2.2.2.2.2.1))]'h11.2) + x9.2.2.1)) ∧
         (((0 : Int) ≤ ((x9.2.2.2.2.2.2.2.2.1[(Int.toNat (HMod.hMod (x9.2.2.2.2.1 + x9.1) x9.2.2.2.2.2.1))]'h11.2) + x9.2.2.1)) ∧ ((0 : Int) < (5 : Int))) ∧
         (((List.length x9.2.2.2.2.2.2.2.2.2.1) + (List.length ((HMod.hMod ((x9.2.2.2.2.2.2.2.2.1[(Int.toNat (HMod.hMod (x9.2.2.2.2.1 + x9.1) x9.2.2.2.2.2.1))]'h11.2) + x9.2.2.1) (5 : Int)) :: ([] : List Int)))) ≤ Go.Abs.big) ∧
         (Go.Abs.fitsK Go.IntKind.i64 (x9.2.2.2.2.1 + (1 : Int))) ∧
         (K9 (x9.1, (x9.2.1, (x9.2.2.1, (x9.2.2.2.1, ((x9.2.2.2.2.1 + (1 : Int)), (x9.2.2.2.2.2.1, (x9.2.2.2.2.2.2.1, (x9.2.2.2.2.2.2.2.1, (x9.2.2.2.2.2.2.2.2.1, ((x9.2.2.2.2.2.2.2.2.2.1 ++ ((HMod.hMod ((x9.2.2.2.2.2.2.2.2.1[(Int.toNat (HMod.hMod (x9.2.2.2.2.1 + x9.1) x9.2.2.2.2.2.1))]'h11.2) + x9.2.2.1) (5 : Int)) :: ([] : List Int))), (x9.2.2.2.2.2.2.2.2.2.2.1, ())))))))))))))
         ((((List.length x9.2.2.2.2.2.2.2.2.2.2.1) + (List.length (x9.2.2.2.2.2.2.2.2.2.1 :: ([] : List (List Int))))) ≤ Go.Abs.big) ∧
         (Go.Abs.fitsK Go.IntKind.i64 (x9.2.2.2.1 + (1 : Int))) ∧
         (K6 (x9.1, (x9.2.1, (x9.2.2.1, ((x9.2.2.2.1 + (1 : Int)), (x9.2.2.2.2.2.1, (x9.2.2.2.2.2.2.1, (x9.2.2.2.2.2.2.2.1, ((x9.2.2.2.2.2.2.2.2.2.2.1 ++ (x9.2.2.2.2.2.2.2.2.2.1 :: ([] : List (List Int)))), ()))))))))))) ((x6.1, (x6.2.1, (x6.2.2.1, (x6.2.2.2.1, ((0 : Int), (x6.2.2.2.2.1, (x6.2.2.2.2.2.1, (x6.2.2.2.2.2.2.1, ((x6.2.2.2.2.2.1[(Int.toNat (HMod.hMod (x6.2.2.2.1 + x6.2.1) (((List.length x6.2.2.2.2.2.1) : Nat) : Int)))]'h8.2), (([] : List Int), (x6.2.2.2.2.2.2.2.1, ())))))))))))))
      ((Go.Abs.King.v42.p (x6.2.2.2.2.1, (x6.2.2.2.2.2.1, ()))) ∧
      (Go.Abs.King.v42.p (x6.2.2.2.2.2.2.1, (x6.2.2.2.2.2.2.2.1, ()))) ∧
      (Go.Abs.King.v27.p (x6.2.2.2.2.1, (x6.2.2.2.2.2.1, ()))) ∧
      (Go.Abs.King.v27.p (x6.2.2.2.2.2.2.1, (x6.2.2.2.2.2.2.2.1, ()))) ∧
      (Go.Abs.King.v45.p (x6.2.2.2.2.1, (x6.2.2.2.2.2.1, ()))) ∧
      (Go.Abs.King.v30.p (x6.2.2.2.2.1, (x6.2.2.2.2.2.1, ((List.replicate (Int.toNat x6.2.2.2.2.1) (-(1 : Int) : Int)), ())))) ∧
      (Go.Abs.King.v45.p (x6.2.2.2.2.2.2.1, (x6.2.2.2.2.2.2.2.1, ()))) ∧
      (Go.Abs.King.v30.p (x6.2.2.2.2.2.2.1, (x6.2.2.2.2.2.2.2.1, ((List.replicate (Int.toNat x6.2.2.2.2.2.2.1) (-(1 : Int) : Int)), ())))) ∧
      br (((Bool.not ((Go.Abs.King.isF x6.2.2.2.2.1 x6.2.2.2.2.2.1) == (Go.Abs.King.isF x6.2.2.2.2.2.2.1 x6.2.2.2.2.2.2.2.1))) == Bool.false))
       (br ((((((List.length (Go.Abs.King.fewL x6.2.2.2.2.1 x6.2.2.2.2.2.1)) : Nat) : Int) != (((List.length (Go.Abs.King.fewL x6.2.2.2.2.2.2.1 x6.2.2.2.2.2.2.2.1)) : Nat) : Int)) == Bool.false))
        (br ((((Go.Abs.King.checkShelf x6.2.2.2.2.1 x6.2.2.2.2.2.1) != (0 : Int)) == Bool.false))
         (br ((((Go.Abs.King.checkShelf x6.2.2.2.2.2.2.1 x6.2.2.2.2.2.2.2.1) != (0 : Int)) == Bool.false))
          (br ((((((List.length (Go.Abs.King.neededL x6.2.2.2.2.1 x6.2.2.2.2.2.1)) : Nat) : Int) != (((List.length (Go.Abs.King.neededL x6.2.2.2.2.2.2.1 x6.2.2.2.2.2.2.2.1)) : Nat) : Int)) == Bool.false))
           (br ((((Go.Abs.King.seenErr x6.2.2.2.2.1 x6.2.2.2.2.2.1 (List.replicate (Int.toNat x6.2.2.2.2.1) (-(1 : Int) : Int))) != (0 : Int)) == Bool.false))
            (br ((((Go.Abs.King.seenErr x6.2.2.2.2.2.2.1 x6.2.2.2.2.2.2.2.1 (List.replicate (Int.toNat x6.2.2.2.2.2.2.1) (-(1 : Int) : Int))) != (0 : Int)) == Bool.false))
             (br (((Go.Abs.King.looksE x6.2.2.2.2.1 x6.2.2.2.2.2.1 (List.replicate (Int.toNat x6.2.2.2.2.1) (-(1 : Int) : Int))) != (Go.Abs.King.looksE x6.2.2.2.2.2.2.1 x6.2.2.2.2.2.2.2.1 (List.replicate (Int.toNat x6.2.2.2.2.2.2.1) (-(1 : Int) : Int)))))
              ((k (Go.Abs.AVal.bool Bool.false) []))
              (br (((Bool.not (Go.Abs.King.isF x6.2.2.2.2.1 x6.2.2.2.2.2.1)) == Bool.false))
               ((((0 : Int) ≤ (0 : Int)) ∧ ((Int.toNat (0 : Int)) < (List.length (Go.Abs.King.fewL x6.2.2.2.2.1 x6.2.2.2.2.2.1)))) ∧
               ∃ h8 : ((Int.toNat (0 : Int)) < (List.length (Go.Abs.King.fewL x6.2.2.2.2.1 x6.2.2.2.2.2.1))),
               (((0 : Int) ≤ (0 : Int)) ∧ ((Int.toNat (0 : Int)) < (List.length (Go.Abs.King.fewL x6.2.2.2.2.2.2.1 x6.2.2.2.2.2.2.2.1)))) ∧
               ∃ h9 : ((Int.toNat (0 : Int)) < (List.length (Go.Abs.King.fewL x6.2.2.2.2.2.2.1 x6.2.2.2.2.2.2.2.1))),
               br ((((((List.length ((Go.Abs.King.fewL x6.2.2.2.2.1 x6.2.2.2.2.2.1)[(Int.toNat (0 : Int))]'h8)) : Nat) : Int) == (((List.length ((Go.Abs.King.fewL x6.2.2.2.2.2.2.1 x6.2.2.2.2.2.2.2.1)[(Int.toNat (0 : Int))]'h9)) : Nat) : Int)) == Bool.true))
                ((Go.Abs.King.v17.p ()) ∧
                (k (Go.Abs.AVal.bool Bool.true) []))
                ((k (Go.Abs.AVal.bool Bool.false) [])))
               ((Go.Abs.King.v17.p ()) ∧
               (k (Go.Abs.AVal.bool Bool.true) []))))
             ((k (Go.Abs.AVal.bool Bool.false) [])))
            ((k (Go.Abs.AVal.bool Bool.false) [])))
           ((k (Go.Abs.AVal.bool Bool.false) [])))
          ((k (Go.Abs.AVal.bool Bool.false) [])))
         ((k (Go.Abs.AVal.bool Bool.false) [])))
        ((k (Go.Abs.AVal.bool Bool.false) [])))
       ((k (Go.Abs.AVal.bool Bool.false) [])))) ((marks, (pt, (values, ((0 : Int), (m, (pots, (m, (([] : List (List Int)), ()))))))))))
theorem eq12 (m : Int) (pots : List (List Int)) (marks pt values : Int) (k : AVal → List Cont → Prop) : awpF (envOf [(40, mkC [v40]), (17, mkC [v17]), (42, mkC [v42]), (27, mkC [v27]), (45, mkC [v45]), (30, mkC [v30])]) Try.prog kt 12 false Try.f12 (v12.S.enc Unit (m, pots, marks, pt, values, ())).1 [] k = vc12 m pots marks pt values k := by kernel_rfl
theorem tx12 : (Try.f12.body.map Code.textsOk).getD true = true := by kernel_rfl

def vc13 (m : Int) (pots : List (List Int)) (which mark : Int) (k : AVal → List Cont → Prop) : Prop :=
  (Go.Abs.King.v40.p (m, (pots, ()))) ∧
  br (((Bool.not (Go.Abs.King.fineB m pots)) == Bool.false))
   (br ((decide ((((List.length pots) : Nat) : Int) ≥ (8 : Int))))
    ((Go.Abs.King.v17.p ()) ∧
    (k (Go.Abs.AVal.bool Bool.true) []))
    ((Go.Abs.fitsK Go.IntKind.i64 which) ∧
    (((0 : Int) ≤ which) ∧ ((0 : Int) < (((List.length pots) : Nat) : Int))) ∧
    (Go.Abs.fitsK Go.IntKind.i64 mark) ∧
    (((0 : Int) ≤ mark) ∧ ((0 : Int) < m)) ∧
    ∃ h5 : (((0 : Int) ≤ (HMod.hMod which (((List.length pots) : Nat) : Int))) ∧ ((Int.toNat (HMod.hMod which (((List.length pots) : Nat) : Int))) < (List.length pots))),
    (((List.length ([] : List Int)) + (List.length (pots[(Int.toNat (HMod.hMod which (((List.length pots) : Nat) : Int)))]'h5.2))) ≤ Go.Abs.big) ∧
    (((List.length ([] : List (List Int))) + (List.length pots)) ≤ Go.Abs.big) ∧
    (((List.length (([] : List (List Int)) ++ pots)) + (List.length ((([] : List Int) ++ (pots[(Int.toNat (HMod.hMod which (((List.length pots) : Nat) : Int)))]'h5.2)) :: ([] : List (List Int))))) ≤ Go.Abs.big) ∧
    (Go.Abs.King.v42.p (m, (((([] : List (List Int)) ++ pots) ++ ((([] : List Int) ++ (pots[(Int.toNat (HMod.hMod which (((List.length pots) : Nat) : Int)))]'h5.2)) :: ([] : List (List Int)))), ()))) ∧
    (Go.Abs.King.v49.p (m, ())) ∧
    (Go.Abs.King.v18.p (m, (((([] : List (List Int)) ++ pots) ++ ((([] : List Int) ++ (pots[(Int.toNat (HMod.hMod which (((List.length pots) : Nat) : Int)))]'h5.2)) :: ([] : List (List Int)))), ((Go.Abs.King.listed (((2 : Nat) ^ (Int.toNat m)) - (1 : Nat)) (Int.toNat m)), ())))) ∧
    (Go.Abs.King.v45.p (m, (((([] : List (List Int)) ++ pots) ++ ((([] : List Int) ++ (pots[(Int.toNat (HMod.hMod which (((List.length pots) : Nat) : Int)))]'h5.2)) :: ([] : List (List Int)))), ()))) ∧
    (Go.Abs.King.v30.p (m, (((([] : List (List Int)) ++ pots) ++ ((([] : List Int) ++ (pots[(Int.toNat (HMod.hMod which (((List.length pots) : Nat) : Int)))]'h5.2)) :: ([] : List (List Int)))), ((List.replicate (Int.toNat m) (-(1 : Int) : Int)), ())))) ∧
    br (((Go.Abs.King.isF m ((([] : List (List Int)) ++ pots) ++ ((([] : List Int) ++ (pots[(Int.toNat (HMod.hMod which (((List.length pots) : Nat) : Int)))]'h5.2)) :: ([] : List (List Int))))) == Bool.false))
     (br ((((Go.Abs.King.hardN m ((([] : List (List Int)) ++ pots) ++ ((([] : List Int) ++ (pots[(Int.toNat (HMod.hMod which (((List.length pots) : Nat) : Int)))]'h5.2)) :: ([] : List (List Int)))) (Go.Abs.King.listed (((2 : Nat) ^ (Int.toNat m)) - (1 : Nat)) (Int.toNat m))) != (0 : Int)) == Bool.false))
      (br ((((Go.Abs.King.seenErr m ((([] : List (List Int)) ++ pots) ++ ((([] : List Int) ++ (pots[(Int.toNat (HMod.hMod which (((List.length pots) : Nat) : Int)))]'h5.2)) :: ([] : List (List Int)))) (List.replicate (Int.toNat m) (-(1 : Int) : Int))) != (0 : Int)) == Bool.false))
       (br (((Go.Abs.King.looksE m ((([] : List (List Int)) ++ pots) ++ ((([] : List Int) ++ (pots[(Int.toNat (HMod.hMod which (((List.length pots) : Nat) : Int)))]'h5.2)) :: ([] : List (List Int)))) (List.replicate (Int.toNat m) (-(1 : Int) : Int))) != (-(1 : Int) : Int)))
        ((k (Go.Abs.AVal.bool Bool.false) []))
        (∃ h6 : (((0 : Int) ≤ (HMod.hMod which (((List.length pots) : Nat) : Int))) ∧ ((Int.toNat (HMod.hMod which (((List.length pots) : Nat) : Int))) < (List.length pots))),
        (((List.length ([] : List Int)) + (List.length (pots[(Int.toNat (HMod.hMod which (((List.length pots) : Nat) : Int)))]'h6.2))) ≤ Go.Abs.big) ∧
        (((0 : Int) ≤ (HMod.hMod mark m)) ∧ ((Int.toNat (HMod.hMod mark m)) < (List.length (([] : List Int) ++ (pots[(Int.toNat (HMod.hMod which (((List.length pots) : Nat) : Int)))]'h6.2))))) ∧
        ∃ h7 : ((Int.toNat (HMod.hMod mark m)) < (List.length (([] : List Int) ++ (pots[(Int.toNat (HMod.hMod which (((List.length pots) : Nat) : Int)))]'h6.2)))),
        (Go.Abs.fitsK Go.IntKind.i64 (((([] : List Int) ++ (pots[(Int.toNat (HMod.hMod which (((List.length pots) : Nat) : Int)))]'h6.2))[(Int.toNat (HMod.hMod mark m))]'h7) + (1 : Int))) ∧
        (((0 : Int) ≤ (((([] : List Int) ++ (pots[(Int.toNat (HMod.hMod which (((List.length pots) : Nat) : Int)))]'h6.2))[(Int.toNat (HMod.hMod mark m))]'h7) + (1 : Int))) ∧ ((0 : Int) < (5 : Int))) ∧
        (((0 : Int) ≤ (HMod.hMod mark m)) ∧ ((Int.toNat (HMod.hMod mark m)) < (List.length (([] : List Int) ++ (pots[(Int.toNat (HMod.hMod which (((List.length pots) : Nat) : Int)))]'h6.2))))) ∧
        ∃ h8 : ((Int.toNat (HMod.hMod mark m)) < (List.length (([] : List Int) ++ (pots[(Int.toNat (HMod.hMod which (((List.length pots) : Nat) : Int)))]'h6.2)))),
        (((List.length ([] : List (List Int))) + (List.length pots)) ≤ Go.Abs.big) ∧
        (((List.length (([] : List (List Int)) ++ pots)) + (List.length ((List.set (([] : List Int) ++ (pots[(Int.toNat (HMod.hMod which (((List.length pots) : Nat) : Int)))]'h6.2)) (Int.toNat (HMod.hMod mark m)) (HMod.hMod (((([] : List Int) ++ (pots[(Int.toNat (HMod.hMod which (((List.length pots) : Nat) : Int)))]'h6.2))[(Int.toNat (HMod.hMod mark m))]'h7) + (1 : Int)) (5 : Int))) :: ([] : List (List Int))))) ≤ Go.Abs.big) ∧
        (Go.Abs.King.v27.p (m, (((([] : List (List Int)) ++ pots) ++ ((List.set (([] : List Int) ++ (pots[(Int.toNat (HMod.hMod which (((List.length pots) : Nat) : Int)))]'h6.2)) (Int.toNat (HMod.hMod mark m)) (HMod.hMod (((([] : List Int) ++ (pots[(Int.toNat (HMod.hMod which (((List.length pots) : Nat) : Int)))]'h6.2))[(Int.toNat (HMod.hMod mark m))]'h7) + (1 : Int)) (5 : Int))) :: ([] : List (List Int)))), ()))) ∧
        Go.Abs.Loop (σ := (Int × (Int × (Bool × (Int × ((List Int) × Unit)))))) (fun K9 x9 =>
          br ((decide (x9.2.2.2.1 < (((List.length x9.2.2.2.2.1) : Nat) : Int))))
           (br ((x9.2.2.1 == Bool.false))
            ((((0 : Int) ≤ x9.2.2.2.1) ∧ ((Int.toNat x9.2.2.2.1) < (List.length x9.2.2.2.2.1))) ∧
            ∃ h11 : ((Int.toNat x9.2.2.2.1) < (List.length x9.2.2.2.2.1)),
            (Go.Abs.fitsK Go.IntKind.i64 (x9.2.2.2.1 + (1 : Int))) ∧
            (K9 (x9.1, (x9.2.1, (((x9.2.2.2.2.1[(Int.toNat x9.2.2.2.1)]'h11) == x9.1), ((x9.2.2.2.1 + (1 : Int)), (x9.2.2.2.2.1, ())))))))
            ((Go.Abs.fitsK Go.IntKind.i64 (x9.2.2.2.1 + (1 : Int))) ∧
            (K9 (x9.1, (x9.2.1, (Bool.true, ((x9.2.2.2.1 + (1 : Int)), (x9.2.2.2.2.1, ()))))))))
           (br (((x9.2.1 == (0 : Int)) == Bool.true))
            (br ((x9.2.2.1 == Bool.true))
             ((Go.Abs.King.v17.p ()) ∧
             (k (Go.Abs.AVal.bool Bool.true) []))
             ((k (Go.Abs.AVal.bool Bool.false) [])))
            ((k (Go.Abs.AVal.bool Bool.false) [])))) (((HMod.hMod mark m), ((Go.Abs.King.checkShelf m ((([] : List (List Int)) ++ pots) ++ ((List.set (([] : List Int) ++ (pots[(Int.toNat (HMod.hMod which (((List.length pots) : Nat) : Int)))]'h6.2)) (Int.toNat (HMod.hMod mark m)) (HMod.hMod (((([] : List Int) ++ (pots[(Int.toNat (HMod.hMod which (((List.length pots) : Nat) : Int)))]'h6.2))[(Int.toNat (HMod.hMod mark m))]'h7) + (1 : Int)) (5 : Int))) :: ([] : List (List Int))))), (Bool.false, ((0 : Int), ((Go.Abs.King.neededL m ((([] : List (List Int)) ++ pots) ++ ((List.set (([] : List Int) ++ (pots[(Int.toNat (HMod.hMod which (((List.length pots) : Nat) : Int)))]'h6.2)) (Int.toNat (HMod.hMod mark m)) (HMod.hMod (((([] : List Int) ++ (pots[(Int.toNat (HMod.hMod which (((List.length pots) : Nat) : Int)))]'h6.2))[(Int.toNat (HMod.hMod mark m))]'h7) + (1 : Int)) (5 : Int))) :: ([] : List (List Int))))), ()))))))))
       ((k (Go.Abs.AVal.bool Bool.false) [])))
      ((k (Go.Abs.AVal.bool Bool.false) [])))
     ((k (Go.Abs.AVal.bool Bool.false) []))))
   ((Go.Abs.King.v17.p ()) ∧
   (k (Go.Abs.AVal.bool Bool.true) []))
theorem eq13 (m : Int) (pots : List (List Int)) (which mark : Int) (k : AVal → List Cont → Prop) : awpF (envOf [(40, mkC [v40]), (17, mkC [v17]), (42, mkC [v42]), (49, mkC [v49]), (18, mkC [v18]), (45, mkC [v45]), (30, mkC [v30]), (27, mkC [v27])]) Try.prog kt 13 false Try.f13 (v13.S.enc Unit (m, pots, which, mark, ())).1 [] k = vc13 m pots which mark k := by kernel_rfl
theorem tx13 : (Try.f13.body.map Code.textsOk).getD true = true := by kernel_rfl

end Go.Abs.King
end

section
/- The king's statements: a rival's pot. -/
open Go.Proofs
set_option maxRecDepth 100000
set_option linter.unusedVariables false
namespace Go.Abs.King

theorem fine_mk {m : Nat} {pots : List (List Int)} (h1 : 1 ≤ m ∧ m ≤ 6) (h2 : 1 ≤ pots.length ∧ pots.length ≤ 8) (h3 : ∀ p ∈ pots, p.length = m) (h4 : ∀ p ∈ pots, ∀ x ∈ p, 0 ≤ x ∧ x ≤ 4) : checkShelf (m : Int) pots = 0 :=
  cs_ok (by omega) (fun p hp => by have := h3 p hp; omega) (fun p hp x hx => by have := h4 p hp x hx; omega)
theorem fine_add {m : Nat} {pots : List (List Int)} (hf : checkShelf (m : Int) pots = 0) (h7 : pots.length < 8) {q : List Int} (hq : q.length = m) (hv : ∀ x ∈ q, 0 ≤ x ∧ x ≤ 4) : checkShelf (m : Int) (pots ++ [q]) = 0 := by
  obtain ⟨f1, f2, f3, f4⟩ := fine_spec hf
  refine fine_mk (by omega) (by rw [List.length_append, List.length_singleton]; omega) (fun p hp => ?_) (fun p hp => ?_)
  · rcases List.mem_append.1 hp with hp | hp
    · have := f3 p hp; omega
    · rw [List.mem_singleton.1 hp]; exact hq
  · rcases List.mem_append.1 hp with hp | hp
    · exact f4 p hp
    · rw [List.mem_singleton.1 hp]; exact hv
theorem mk_add_old {pots : List (List Int)} {q : List Int} {i j : Nat} (hi : i < pots.length) : mk (pots ++ [q]) i j = mk pots i j := by
  have : (pots ++ [q]).getD i [] = pots.getD i [] := by rw [List.getD_eq_getElem?_getD, List.getElem?_append_left hi, ← List.getD_eq_getElem?_getD]
  unfold mk
  rw [this]
theorem mk_add_new {pots : List (List Int)} {q : List Int} {j : Nat} : mk (pots ++ [q]) pots.length j = q.getD j 0 := by
  have : (pots ++ [q]).getD pots.length [] = q := by
    rw [List.getD_eq_getElem?_getD, List.getElem?_append_right (Nat.le_refl _), Nat.sub_self]; rfl
  unfold mk
  rw [this]
theorem agree_unseen (pots : List (List Int)) (m : Nat) : agree pots m (List.replicate m (-1)) = 2 ^ pots.length - 1 := by
  refine bits_ext (fun i => ?_)
  rw [agree_test, all_bits]
  refine ⟨fun h => h.1, fun h => ⟨h, fun k hk => Or.inl ?_⟩⟩
  rw [getD_lt _ _ (by simpa using hk), List.getElem_replicate]
  omega
theorem unseen_ok {m : Nat} {pots : List (List Int)} (hf : checkShelf (m : Int) pots = 0) : seenErr (m : Int) pots (List.replicate m (-1)) = 0 := by
  refine seenErr_ok hf (by simp) (fun x hx => ?_)
  rw [(List.mem_replicate.1 hx).2]; omega
theorem looks_unseen {m : Nat} {pots : List (List Int)} (hf : checkShelf (m : Int) pots = 0) : looksE (m : Int) pots (List.replicate m (-1)) = looks pots m (2 ^ pots.length - 1) := by
  rw [looksE_ok (unseen_ok hf), agree_unseen]
/-- There are lists that tell just if all marks do. -/
theorem isF_told {m : Nat} {pots : List (List Int)} (hf : checkShelf (m : Int) pots = 0) : isF (m : Int) pots = true ↔ Told pots m (fun i => i < pots.length) := by
  rw [← told_all]
  constructor
  · intro h
    have hE : fewE (m : Int) pots = 0 := of_decide_eq_true h
    rcases isF_err hf with ⟨h1, _, _⟩ | ⟨n, _, _, h3, _, h5⟩
    · omega
    · have hs := few_spec hf h3 _ (List.getElem_mem h5)
      refine told_all.2 (fun i k hi hk hne => ?_)
      obtain ⟨y, hy, hd⟩ := hard_false hs.2.2 hi hk hne
      have hb := ((rises_iff (m : Int) _ 0).1 hs.1).1 y hy
      exact ⟨y.toNat, by omega, hd⟩
  · intro h
    have hh : hardB pots (listed (2 ^ m - 1) m) = false := by
      unfold toldAll at h
      rw [Int.toNat_natCast] at h
      cases hh : hardB pots (listed (2 ^ m - 1) m) with
      | true => rw [hh] at h; cases h
      | false => rfl
    obtain ⟨n, hn, _⟩ := few_min hf (listed_isList _ m) hh
    unfold isF fewE
    rw [if_neg (not_not_intro hf), hn]; rfl
theorem needed_iff {m : Nat} {pots : List (List Int)} (hf : checkShelf (m : Int) pots = 0) {j : Nat} (hj : j < m) : (j : Int) ∈ neededL (m : Int) pots ↔ ∃ i k, i < pots.length ∧ k < i ∧ apart pots m i k = [(j : Int)] := by
  constructor
  · intro h
    obtain ⟨j', e, _, h2⟩ := needed_mem hf h
    have : j = j' := by omega
    subst this; exact h2
  · rintro ⟨i, k, hi, hk, ha⟩
    unfold neededL
    rw [if_neg (not_not_intro hf), Int.toNat_natCast]
    refine List.mem_map.2 ⟨j, List.mem_filter.2 ⟨List.mem_range.2 hj, ?_⟩, rfl⟩
    exact any_range_true hi (any_range_true hk (decide_eq_true ha))
theorem apart_one {pots : List (List Int)} {m i k j : Nat} (hj : j < m) (h1 : mk pots i j ≠ mk pots k j) (h2 : ∀ x, x < m → x ≠ j → mk pots i x = mk pots k x) : apart pots m i k = [(j : Int)] := by
  refine of_decide_eq_true ?_
  rw [not_any_apart hj, Bool.and_eq_true]
  refine ⟨tells_iff.2 ⟨(j : Int), by simp, by simpa using h1⟩, ?_⟩
  rw [Bool.not_eq_true']
  cases ht : tells pots (((List.range m).filter (fun x => decide (x ≠ j))).map Int.ofNat) i k with
  | false => rfl
  | true =>
    exfalso
    obtain ⟨y, hy, hd⟩ := tells_iff.1 ht
    obtain ⟨x, hx, rfl⟩ := List.mem_map.1 hy
    obtain ⟨hx1, hx2⟩ := List.mem_filter.1 hx
    exact hd (h2 x (List.mem_range.1 hx1) (of_decide_eq_true hx2))

theorem k13 (hG : Good Try.prog (envOf [(40, mkC [v40]), (17, mkC [v17]), (42, mkC [v42]), (49, mkC [v49]), (18, mkC [v18]), (45, mkC [v45]), (30, mkC [v30]), (27, mkC [v27])])) : v13.Kept Try.prog 13 := by
  rintro ⟨m, pots, which, mark, ⟨⟩⟩ hpre k hk
  change List (List Int) at pots
  change Int at m which mark
  refine aspec hmix hG Try.func13 tx13 (Eq.mpr (eq13 m pots which mark k) ?_)
  replace hk : k (.bool true) [] := hk
  have hw0 : 0 ≤ which := hpre.1.1
  have hw1 : which ≤ 255 := hpre.1.2
  have hb0 : 0 ≤ mark := hpre.2.1
  have hb1 : mark ≤ 255 := hpre.2.2
  unfold vc13
  refine ⟨trivial, br_intro (fun h1 => ?_) (fun h1 => ⟨trivial, hk⟩)⟩
  obtain ⟨hf, hs⟩ := fine_of (notfine_f (eq_of_beq h1))
  obtain ⟨f1, f2, f3, f4⟩ := fine_spec hf
  obtain ⟨mm, rfl⟩ := Int.eq_ofNat_of_zero_le (show 0 ≤ m by omega)
  rw [br_decide]
  refine ⟨fun _ => ⟨trivial, hk⟩, fun h8 => ?_⟩
  have hm0 : 0 ≤ which % (pots.length : Int) := Int.emod_nonneg _ (by omega)
  have hm1 : which % (pots.length : Int) < (pots.length : Int) := Int.emod_lt_of_pos _ (by omega)
  have hr0 : 0 ≤ mark % (mm : Int) := Int.emod_nonneg _ (by omega)
  have hr1 : mark % (mm : Int) < (mm : Int) := Int.emod_lt_of_pos _ (by omega)
  obtain ⟨p, hp⟩ := Int.eq_ofNat_of_zero_le hm0
  obtain ⟨j, hj⟩ := Int.eq_ofNat_of_zero_le hr0
  rw [hp] at hm1
  rw [hj] at hr1
  have hpn : p < pots.length := by omega
  have hjm : j < mm := by omega
  simp only [hp, hj, Int.toNat_natCast, List.nil_append]
  have hpl : pots[p].length = mm := by have := f3 _ (List.getElem_mem hpn); omega
  have hpv := f4 _ (List.getElem_mem hpn)
  have hfx := fine_add hf (by omega) hpl hpv
  obtain ⟨X, hX⟩ : ∃ X, pots ++ [pots[p]] = X := ⟨_, rfl⟩
  have hXl : X.length = pots.length + 1 := by rw [← hX]; simp
  have hfX : checkShelf (mm : Int) X = 0 := hX ▸ hfx
  have hsX : smallS X := by
    obtain ⟨_, g2, g3, _⟩ := fine_spec hfX
    exact ⟨by omega, fun q hq => by have := g3 q hq; omega⟩
  have hsame : ∀ x, mk X pots.length x = mk X p x := by
    intro x
    rw [← hX, mk_add_new, mk_add_old hpn]
    unfold mk
    rw [getP hpn]
  have hnt : ¬ Told X mm (fun i => i < X.length) := by
    intro h
    obtain ⟨x, _, hd⟩ := h pots.length p (by show pots.length < X.length; omega) (by show p < X.length; omega) (by omega)
    exact hd (hsame x)
  have hisF : isF (mm : Int) X = false := by
    cases h : isF (mm : Int) X with
    | false => rfl
    | true => exact absurd ((isF_told hfX).1 h) hnt
  have hhard : hardN (mm : Int) X (listed (2 ^ mm - 1) mm) = 0 := by
    rw [hardN_own hfX (listed_isList _ mm), if_pos]
    refine hardB_iff.2 ⟨p, pots.length, hpn, by omega, ?_⟩
    cases ht : tells X (listed (2 ^ mm - 1) mm) p pots.length with
    | false => rfl
    | true =>
      obtain ⟨y, _, hd⟩ := tells_iff.1 ht
      exact absurd (hsame y.toNat).symm hd
  have hlooks : looksE (mm : Int) X (List.replicate mm (-1)) = -1 := by
    rw [looks_unseen hfX]
    have hb := (looks_bounds X mm (2 ^ X.length - 1)).1
    rcases hb with hb | hb
    · exact hb
    · exfalso
      have := (told_looks hfX (all_lt X.length)).1 hb
      exact hnt (fun i t hi ht => this i t (all_bits.2 hi) (all_bits.2 ht))
  simp only [hX]
  refine ⟨fits64 (by omega) (by omega), ⟨hw0, by omega⟩, fits64 (by omega) (by omega), ⟨hb0, by omega⟩, ⟨by omega, hpn⟩, by simp [big]; omega, by simp [big]; omega, by simp [big]; omega, hfX, ⟨by show (0 : Int) ≤ (mm : Int); omega, by show (mm : Int) ≤ 40; omega⟩, ⟨hsX, by show (listed (2 ^ mm - 1) mm).length ≤ 1152921504606846976; have := listed_len (2 ^ mm - 1) mm; omega⟩, by show (mm : Int) ≤ 100; omega, ⟨hsX, by show (List.replicate mm (-1 : Int)).length ≤ 1152921504606846976; simp; omega⟩, ?_⟩
  rw [hisF, ff1, br_t, hhard, n00, ff1, br_t, unseen_ok hfX, n00, ff1, br_t, hlooks]
  have e1 : ((-1 : Int) != -1) = false := rfl
  rw [e1, br_f]
  have hjl : j < pots[p].length := by omega
  have hv0 := hpv _ (List.getElem_mem hjl)
  have hq0 : 0 ≤ (pots[p][j] + 1) % 5 := Int.emod_nonneg _ (by omega)
  have hq1 : (pots[p][j] + 1) % 5 < 5 := Int.emod_lt_of_pos _ (by omega)
  have hql : (pots[p].set j ((pots[p][j] + 1) % 5)).length = mm := by rw [List.length_set]; exact hpl
  have hqv : ∀ x ∈ pots[p].set j ((pots[p][j] + 1) % 5), 0 ≤ x ∧ x ≤ 4 := by
    intro x hx
    rcases List.mem_or_eq_of_mem_set hx with hx | hx
    · exact hpv x hx
    · omega
  have hfy := fine_add hf (by omega) hql hqv
  have hsY : smallS (pots ++ [pots[p].set j ((pots[p][j] + 1) % 5)]) := by
    obtain ⟨_, g2, g3, _⟩ := fine_spec hfy
    exact ⟨by omega, fun q hq => by have := g3 q hq; omega⟩
  have hyn : ∀ x, x < mm → mk (pots ++ [pots[p].set j ((pots[p][j] + 1) % 5)]) pots.length x = if j = x then (pots[p][j] + 1) % 5 else mk pots p x := by
    intro x hx
    rw [mk_add_new, getD_set _ _ _ _ _ hjl]
    by_cases e : j = x
    · rw [if_pos e, if_pos e]
    · rw [if_neg e, if_neg e]
      unfold mk
      rw [getP hpn]
  have hneed : (j : Int) ∈ neededL (mm : Int) (pots ++ [pots[p].set j ((pots[p][j] + 1) % 5)]) := by
    refine (needed_iff hfy hjm).2 ⟨pots.length, p, by simp, hpn, apart_one hjm ?_ (fun x hx hne => ?_)⟩
    · rw [hyn j hjm, if_pos rfl, mk_add_old hpn, mk_eq hpn hjl]
      omega
    · rw [hyn x hx, if_neg (fun e => hne e.symm), mk_add_old hpn]
  refine ⟨⟨by omega, hpn⟩, by simp [big]; omega, ⟨by omega, hjl⟩, hjl, fits64 (by omega) (by omega), ⟨by omega, by omega⟩, ⟨by omega, hjl⟩, hjl, by simp [big]; omega, by simp [big]; omega, hsY, ?_⟩
  rw [hfy]
  have hnl := needed_len mm (pots ++ [pots[p].set j ((pots[p][j] + 1) % 5)])
  have hany : (neededL (mm : Int) (pots ++ [pots[p].set j ((pots[p][j] + 1) % 5)])).any (fun x => x == (j : Int)) = true := List.any_eq_true.2 ⟨_, hneed, by simp⟩
  generalize neededL (mm : Int) (pots ++ [pots[p].set j ((pots[p][j] + 1) % 5)]) = L at hnl hany
  refine Loop.upto (fun c => ((j : Int), (0 : Int), (L.take c).any (fun x => x == (j : Int)), (c : Int), L, ())) (fun c => True) L.length rfl trivial ?_ ?_
  · intro c K hc _ hK
    have hK := hK trivial
    rw [any_take_succ _ _ _ hc] at hK
    dsimp only
    generalize (L.take c).any (fun x => x == (j : Int)) = z at hK ⊢
    rw [br_decide]
    simp only [Int.toNat_natCast]
    refine ⟨fun _ => ?_, fun h => absurd hc (by omega)⟩
    rw [br_bf]
    refine ⟨fun hz => ?_, fun hz => ⟨fits64 (by omega) (by omega), ?_⟩⟩
    · rw [hz, Bool.false_or] at hK
      exact ⟨⟨by omega, hc⟩, hc, fits64 (by omega) (by omega), hK⟩
    · rw [hz, Bool.true_or] at hK; exact hK
  · intro K _
    dsimp only
    rw [br_decide, List.take_length, hany]
    exact ⟨fun h => absurd h (by omega), fun _ => ⟨trivial, hk⟩⟩
end Go.Abs.King
end

