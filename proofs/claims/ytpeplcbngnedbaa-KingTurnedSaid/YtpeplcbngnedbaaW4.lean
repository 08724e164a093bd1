/- Part 4 of the road to this seat's statements: lemmas about a small interpreter over the model's code, and about the functions that it is used on. No condition of its own. -/
import Derived.Test.YtpeplcbngnedbaaProg
import Derived.Test.YtpeplcbngnedbaaW3

section
/- Conditions and their equations, printed by a program. -/
open Go.Proofs
set_option maxRecDepth 100000
set_option linter.unusedVariables false
namespace Go.Abs.King
def vc15 (m : Int) (pots : List (List Int)) (k : AVal → List Cont → Prop) : Prop :=
  br ((decide ((((List.length pots) : Nat) : Int) > (14 : Int))))
   ((k (Go.Abs.AVal.bool Bool.true) []))
   (Go.Abs.Loop (σ := (Int × (Int × (Int × ((List (List Int)) × Unit))))) (fun K3 x3 =>
     br ((decide (x3.2.1 < (((List.length x3.2.2.2.1) : Nat) : Int))))
      (∃ h5 : (((0 : Int) ≤ x3.2.1) ∧ ((Int.toNat x3.2.1) < (List.length x3.2.2.2.1))),
      (Go.Abs.fitsK Go.IntKind.i64 (x3.2.1 + (1 : Int))) ∧
      (K3 ((ite ((((List.length (x3.2.2.2.1[(Int.toNat x3.2.1)]'h5.2)) : Nat) : Int) > x3.1) (((List.length (x3.2.2.2.1[(Int.toNat x3.2.1)]'h5.2)) : Nat) : Int) x3.1), ((x3.2.1 + (1 : Int)), (x3.2.2.1, (x3.2.2.2.1, ()))))))
      ((k (Go.Abs.AVal.bool (decide (x3.1 > (12 : Int)))) []))) (((0 : Int), ((0 : Int), (m, (pots, ()))))))
theorem eq15 (m : Int) (pots : List (List Int)) (k : AVal → List Cont → Prop) : awpF (envOf []) Try.prog kt 15 false Try.f15 (v15.S.enc Unit (m, pots, ())).1 [] k = vc15 m pots k := by kernel_rfl
theorem tx15 : (Try.f15.body.map Code.textsOk).getD true = true := by kernel_rfl

def vc16 (l : List Int) (k : AVal → List Cont → Prop) : Prop :=
  (k (Go.Abs.AVal.bool (decide ((((List.length l) : Nat) : Int) > (20 : Int)))) [])
theorem eq16 (l : List Int) (k : AVal → List Cont → Prop) : awpF (envOf []) Try.prog kt 16 false Try.f16 (v16.S.enc Unit (l, ())).1 [] k = vc16 l k := by kernel_rfl
theorem tx16 : (Try.f16.body.map Code.textsOk).getD true = true := by kernel_rfl

def vc24 (a b : List Int) (k : AVal → List Cont → Prop) : Prop :=
  br (((((List.length a) : Nat) : Int) != (((List.length b) : Nat) : Int)))
   ((k (Go.Abs.AVal.bool Bool.false) []))
   (Go.Abs.Loop (σ := ((List Int) × ((List Int) × (Int × Unit)))) (fun K3 x3 =>
     br ((decide (x3.2.2.1 < (((List.length x3.1) : Nat) : Int))))
      (∃ h5 : (((0 : Int) ≤ x3.2.2.1) ∧ ((Int.toNat x3.2.2.1) < (List.length x3.1))),
      ∃ h6 : (((0 : Int) ≤ x3.2.2.1) ∧ ((Int.toNat x3.2.2.1) < (List.length x3.2.1))),
      br (((x3.1[(Int.toNat x3.2.2.1)]'h5.2) != (x3.2.1[(Int.toNat x3.2.2.1)]'h6.2)))
       ((k (Go.Abs.AVal.bool Bool.false) []))
       ((Go.Abs.fitsK Go.IntKind.i64 (x3.2.2.1 + (1 : Int))) ∧
       (K3 (x3.1, (x3.2.1, ((x3.2.2.1 + (1 : Int)), ()))))))
      ((k (Go.Abs.AVal.bool Bool.true) []))) ((a, (b, ((0 : Int), ())))))
theorem eq24 (a b : List Int) (k : AVal → List Cont → Prop) : awpF (envOf []) Try.prog kt 24 false Try.f24 (v24.S.enc Unit (a, b, ())).1 [] k = vc24 a b k := by kernel_rfl
theorem tx24 : (Try.f24.body.map Code.textsOk).getD true = true := by kernel_rfl

def vc29 (a b : List (List Int)) (k : AVal → List Cont → Prop) : Prop :=
  br (((((List.length a) : Nat) : Int) != (((List.length b) : Nat) : Int)))
   ((k (Go.Abs.AVal.bool Bool.false) []))
   (Go.Abs.Loop (σ := ((List (List Int)) × ((List (List Int)) × (Int × Unit)))) (fun K3 x3 =>
     br ((decide (x3.2.2.1 < (((List.length x3.1) : Nat) : Int))))
      (∃ h5 : (((0 : Int) ≤ x3.2.2.1) ∧ ((Int.toNat x3.2.2.1) < (List.length x3.1))),
      ∃ h6 : (((0 : Int) ≤ x3.2.2.1) ∧ ((Int.toNat x3.2.2.1) < (List.length x3.2.1))),
      (Go.Abs.King.v24.p ((x3.1[(Int.toNat x3.2.2.1)]'h5.2), ((x3.2.1[(Int.toNat x3.2.2.1)]'h6.2), ()))) ∧
      br ((Bool.not (Go.Abs.King.eqL (x3.1[(Int.toNat x3.2.2.1)]'h5.2) (x3.2.1[(Int.toNat x3.2.2.1)]'h6.2))))
       ((k (Go.Abs.AVal.bool Bool.false) []))
       ((Go.Abs.fitsK Go.IntKind.i64 (x3.2.2.1 + (1 : Int))) ∧
       (K3 (x3.1, (x3.2.1, ((x3.2.2.1 + (1 : Int)), ()))))))
      ((k (Go.Abs.AVal.bool Bool.true) []))) ((a, (b, ((0 : Int), ())))))
theorem eq29 (a b : List (List Int)) (k : AVal → List Cont → Prop) : awpF (envOf [(24, mkC [v24])]) Try.prog kt 29 false Try.f29 (v29.S.enc Unit (a, b, ())).1 [] k = vc29 a b k := by kernel_rfl
theorem tx29 : (Try.f29.body.map Code.textsOk).getD true = true := by kernel_rfl

def vc23 (m : Int) (pots : List (List Int)) (k : AVal → List Cont → Prop) : Prop :=
  br (((decide (m < (1 : Int))) == Bool.false))
   (br (((decide (m > (6 : Int))) == Bool.false))
    (br (((decide ((((List.length pots) : Nat) : Int) < (1 : Int))) == Bool.false))
     (br ((decide ((((List.length pots) : Nat) : Int) > (8 : Int))))
      ((k (Go.Abs.AVal.int Go.IntKind.i64 (6 : Int)) []))
      (Go.Abs.Loop (σ := (Int × (Int × ((List (List Int)) × Unit)))) (fun K3 x3 =>
        br ((decide (x3.1 < (((List.length x3.2.2.1) : Nat) : Int))))
         (∃ h5 : (((0 : Int) ≤ x3.1) ∧ ((Int.toNat x3.1) < (List.length x3.2.2.1))),
         br (((((List.length (x3.2.2.1[(Int.toNat x3.1)]'h5.2)) : Nat) : Int) != x3.2.1))
          ((k (Go.Abs.AVal.int Go.IntKind.i64 (15 : Int)) []))
          ((Go.Abs.fitsK Go.IntKind.i64 (x3.1 + (1 : Int))) ∧
          (K3 ((x3.1 + (1 : Int)), (x3.2.1, (x3.2.2.1, ()))))))
         (Go.Abs.Loop (σ := (Int × (Int × ((List (List Int)) × Unit)))) (fun K5 x5 =>
           br ((decide (x5.1 < (((List.length x5.2.2.1) : Nat) : Int))))
            (Go.Abs.Loop (σ := (Int × (Int × (Int × ((List (List Int)) × Unit))))) (fun K7 x7 =>
              br ((decide (x7.2.1 < x7.2.2.1)))
               (∃ h9 : (((0 : Int) ≤ x7.1) ∧ ((Int.toNat x7.1) < (List.length x7.2.2.2.1))),
               ∃ h10 : (((0 : Int) ≤ x7.2.1) ∧ ((Int.toNat x7.2.1) < (List.length (x7.2.2.2.1[(Int.toNat x7.1)]'h9.2)))),
               br (((decide (((x7.2.2.2.1[(Int.toNat x7.1)]'h9.2)[(Int.toNat x7.2.1)]'h10.2) < (0 : Int))) == Bool.false))
                (∃ h11 : (((0 : Int) ≤ x7.1) ∧ ((Int.toNat x7.1) < (List.length x7.2.2.2.1))),
                ∃ h12 : (((0 : Int) ≤ x7.2.1) ∧ ((Int.toNat x7.2.1) < (List.length (x7.2.2.2.1[(Int.toNat x7.1)]'h11.2)))),
                br ((decide (((x7.2.2.2.1[(Int.toNat x7.1)]'h11.2)[(Int.toNat x7.2.1)]'h12.2) > (4 : Int))))
                 ((k (Go.Abs.AVal.int Go.IntKind.i64 (3 : Int)) []))
                 ((Go.Abs.fitsK Go.IntKind.i64 (x7.2.1 + (1 : Int))) ∧
                 (K7 (x7.1, ((x7.2.1 + (1 : Int)), (x7.2.2.1, (x7.2.2.2.1, ())))))))
                ((k (Go.Abs.AVal.int Go.IntKind.i64 (3 : Int)) [])))
               ((Go.Abs.fitsK Go.IntKind.i64 (x7.1 + (1 : Int))) ∧
               (K5 ((x7.1 + (1 : Int)), (x7.2.2.1, (x7.2.2.2.1, ())))))) ((x5.1, ((0 : Int), (x5.2.1, (x5.2.2.1, ()))))))
            ((k (Go.Abs.AVal.int Go.IntKind.i64 (0 : Int)) []))) (((0 : Int), (x3.2.1, (x3.2.2.1, ())))))) (((0 : Int), (m, (pots, ()))))))
     ((k (Go.Abs.AVal.int Go.IntKind.i64 (6 : Int)) [])))
    ((k (Go.Abs.AVal.int Go.IntKind.i64 (6 : Int)) [])))
   ((k (Go.Abs.AVal.int Go.IntKind.i64 (6 : Int)) []))
theorem eq23 (m : Int) (pots : List (List Int)) (k : AVal → List Cont → Prop) : awpF (envOf []) Try.prog kt 23 false Try.f23 (v23.S.enc Unit (m, pots, ())).1 [] k = vc23 m pots k := by kernel_rfl
theorem tx23 : (Try.f23.body.map Code.textsOk).getD true = true := by kernel_rfl

def vc43 (l : List Int) (b : Int) (k : AVal → List Cont → Prop) : Prop :=
  Go.Abs.Loop (σ := ((List Int) × (Int × (Int × Unit)))) (fun K3 x3 =>
    br ((decide (x3.2.2.1 < (((List.length x3.1) : Nat) : Int))))
     (∃ h5 : (((0 : Int) ≤ x3.2.2.1) ∧ ((Int.toNat x3.2.2.1) < (List.length x3.1))),
     br (((decide ((x3.1[(Int.toNat x3.2.2.1)]'h5.2) < (0 : Int))) == Bool.false))
      (∃ h6 : (((0 : Int) ≤ x3.2.2.1) ∧ ((Int.toNat x3.2.2.1) < (List.length x3.1))),
      br (((decide ((x3.1[(Int.toNat x3.2.2.1)]'h6.2) ≥ x3.2.1)) == Bool.false))
       (br (((decide (x3.2.2.1 > (0 : Int))) == Bool.true))
        (∃ h7 : (((0 : Int) ≤ x3.2.2.1) ∧ ((Int.toNat x3.2.2.1) < (List.length x3.1))),
        (Go.Abs.fitsK Go.IntKind.i64 (x3.2.2.1 - (1 : Int))) ∧
        ∃ h8 : (((0 : Int) ≤ (x3.2.2.1 - (1 : Int))) ∧ ((Int.toNat (x3.2.2.1 - (1 : Int))) < (List.length x3.1))),
        br ((decide ((x3.1[(Int.toNat x3.2.2.1)]'h7.2) ≤ (x3.1[(Int.toNat (x3.2.2.1 - (1 : Int)))]'h8.2))))
         ((k (Go.Abs.AVal.bool Bool.false) []))
         ((Go.Abs.fitsK Go.IntKind.i64 (x3.2.2.1 + (1 : Int))) ∧
         (K3 (x3.1, (x3.2.1, ((x3.2.2.1 + (1 : Int)), ()))))))
        ((Go.Abs.fitsK Go.IntKind.i64 (x3.2.2.1 + (1 : Int))) ∧
        (K3 (x3.1, (x3.2.1, ((x3.2.2.1 + (1 : Int)), ()))))))
       ((k (Go.Abs.AVal.bool Bool.false) [])))
      ((k (Go.Abs.AVal.bool Bool.false) [])))
     ((k (Go.Abs.AVal.bool Bool.true) []))) ((l, (b, ((0 : Int), ()))))
theorem eq43 (l : List Int) (b : Int) (k : AVal → List Cont → Prop) : awpF (envOf []) Try.prog kt 43 false Try.f43 (v43.S.enc Unit (l, b, ())).1 [] k = vc43 l b k := by kernel_rfl
theorem tx43 : (Try.f43.body.map Code.textsOk).getD true = true := by kernel_rfl

def vc44 (m : Int) (pots : List (List Int)) (marks : List Int) (one two : Int) (k : AVal → List Cont → Prop) : Prop :=
  Go.Abs.Loop (σ := ((List Int) × (Int × (Int × (Int × (Int × ((List (List Int)) × Unit))))))) (fun K6 x6 =>
    br ((decide (x6.2.2.2.1 < (((List.length x6.1) : Nat) : Int))))
     (∃ h8 : (((0 : Int) ≤ x6.2.1) ∧ ((Int.toNat x6.2.1) < (List.length x6.2.2.2.2.2.1))),
     ∃ h9 : (((0 : Int) ≤ x6.2.2.2.1) ∧ ((Int.toNat x6.2.2.2.1) < (List.length x6.1))),
     ∃ h10 : (((0 : Int) ≤ (x6.1[(Int.toNat x6.2.2.2.1)]'h9.2)) ∧ ((Int.toNat (x6.1[(Int.toNat x6.2.2.2.1)]'h9.2)) < (List.length (x6.2.2.2.2.2.1[(Int.toNat x6.2.1)]'h8.2)))),
     ∃ h11 : (((0 : Int) ≤ x6.2.2.1) ∧ ((Int.toNat x6.2.2.1) < (List.length x6.2.2.2.2.2.1))),
     ∃ h12 : (((0 : Int) ≤ x6.2.2.2.1) ∧ ((Int.toNat x6.2.2.2.1) < (List.length x6.1))),
     ∃ h13 : (((0 : Int) ≤ (x6.1[(Int.toNat x6.2.2.2.1)]'h12.2)) ∧ ((Int.toNat (x6.1[(Int.toNat x6.2.2.2.1)]'h12.2)) < (List.length (x6.2.2.2.2.2.1[(Int.toNat x6.2.2.1)]'h11.2)))),
     br ((((x6.2.2.2.2.2.1[(Int.toNat x6.2.1)]'h8.2)[(Int.toNat (x6.1[(Int.toNat x6.2.2.2.1)]'h9.2))]'h10.2) != ((x6.2.2.2.2.2.1[(Int.toNat x6.2.2.1)]'h11.2)[(Int.toNat (x6.1[(Int.toNat x6.2.2.2.1)]'h12.2))]'h13.2)))
      ((k (Go.Abs.AVal.bool Bool.true) []))
      ((Go.Abs.fitsK Go.IntKind.i64 (x6.2.2.2.1 + (1 : Int))) ∧
      (K6 (x6.1, (x6.2.1, (x6.2.2.1, ((x6.2.2.2.1 + (1 : Int)), (x6.2.2.2.2.1, (x6.2.2.2.2.2.1, ())))))))))
     ((k (Go.Abs.AVal.bool Bool.false) []))) ((marks, (one, (two, ((0 : Int), (m, (pots, ())))))))
theorem eq44 (m : Int) (pots : List (List Int)) (marks : List Int) (one two : Int) (k : AVal → List Cont → Prop) : awpF (envOf []) Try.prog kt 44 false Try.f44 (v44.S.enc Unit ((m, pots, marks, one, two, ()))).1 [] k = vc44 m pots marks one two k := by kernel_rfl
theorem tx44 : (Try.f44.body.map Code.textsOk).getD true = true := by kernel_rfl

def vc58 (m : Int) (pots : List (List Int)) (marks : List Int) (k : AVal → List Cont → Prop) : Prop :=
  Go.Abs.Loop (σ := ((List Int) × (Int × (Int × ((List (List Int)) × Unit))))) (fun K4 x4 =>
    br ((decide (x4.2.1 < (((List.length x4.2.2.2.1) : Nat) : Int))))
     ((Go.Abs.fitsK Go.IntKind.i64 (x4.2.1 + (1 : Int))) ∧
     Go.Abs.Loop (σ := ((List Int) × (Int × (Int × (Int × ((List (List Int)) × Unit)))))) (fun K6 x6 =>
       br ((decide (x6.2.2.1 < (((List.length x6.2.2.2.2.1) : Nat) : Int))))
        ((Go.Abs.King.v44.p (x6.2.2.2.1, (x6.2.2.2.2.1, (x6.1, (x6.2.1, (x6.2.2.1, ())))))) ∧
        br ((Bool.not (Go.Abs.King.tells x6.2.2.2.2.1 x6.1 x6.2.1 x6.2.2.1)))
         ((k (Go.Abs.AVal.tup ((Go.Abs.AVal.int Go.IntKind.i64 x6.2.1) :: ((Go.Abs.AVal.int Go.IntKind.i64 x6.2.2.1) :: ((Go.Abs.AVal.bool Bool.true) :: [])))) []))
         ((Go.Abs.fitsK Go.IntKind.i64 (x6.2.2.1 + (1 : Int))) ∧
         (K6 (x6.1, (x6.2.1, ((x6.2.2.1 + (1 : Int)), (x6.2.2.2.1, (x6.2.2.2.2.1, ()))))))))
        ((Go.Abs.fitsK Go.IntKind.i64 (x6.2.1 + (1 : Int))) ∧
        (K4 (x6.1, ((x6.2.1 + (1 : Int)), (x6.2.2.2.1, (x6.2.2.2.2.1, ()))))))) ((x4.1, (x4.2.1, ((x4.2.1 + (1 : Int)), (x4.2.2.1, (x4.2.2.2.1, ())))))))
     ((k (Go.Abs.AVal.tup ((Go.Abs.AVal.int Go.IntKind.i64 (0 : Int)) :: ((Go.Abs.AVal.int Go.IntKind.i64 (0 : Int)) :: ((Go.Abs.AVal.bool Bool.false) :: [])))) []))) ((marks, ((0 : Int), (m, (pots, ())))))
theorem eq58 (m : Int) (pots : List (List Int)) (marks : List Int) (k : AVal → List Cont → Prop) : awpF (envOf [(44, mkC [v44])]) Try.prog kt 58 false Try.f58 (v58.S.enc Unit ((m, pots, marks, ()))).1 [] k = vc58 m pots marks k := by kernel_rfl
theorem tx58 : (Try.f58.body.map Code.textsOk).getD true = true := by kernel_rfl

def vc19 (m : Int) (pots : List (List Int)) (marks : List Int) (k : AVal → List Cont → Prop) : Prop :=
  (Go.Abs.King.v23.p (m, (pots, ()))) ∧
  br (((Go.Abs.King.checkShelf m pots) != (0 : Int)))
   ((Go.Abs.King.v23.p (m, (pots, ()))) ∧
   (k (Go.Abs.AVal.tup ((Go.Abs.AVal.int Go.IntKind.i64 (0 : Int)) :: ((Go.Abs.AVal.int Go.IntKind.i64 (0 : Int)) :: ((Go.Abs.AVal.int Go.IntKind.i64 (Go.Abs.King.checkShelf m pots)) :: [])))) []))
   ((Go.Abs.King.v43.p (marks, (m, ()))) ∧
   br ((Bool.not (Go.Abs.King.isList marks m)))
    ((k (Go.Abs.AVal.tup ((Go.Abs.AVal.int Go.IntKind.i64 (0 : Int)) :: ((Go.Abs.AVal.int Go.IntKind.i64 (0 : Int)) :: ((Go.Abs.AVal.int Go.IntKind.i64 (2 : Int)) :: [])))) []))
    ((Go.Abs.King.v58.p (m, (pots, (marks, ())))) ∧
    br ((Bool.not (Go.Abs.King.hardB pots marks)))
     ((k (Go.Abs.AVal.tup ((Go.Abs.AVal.int Go.IntKind.i64 (0 : Int)) :: ((Go.Abs.AVal.int Go.IntKind.i64 (0 : Int)) :: ((Go.Abs.AVal.int Go.IntKind.i64 (5 : Int)) :: [])))) []))
     ((k (Go.Abs.AVal.tup ((Go.Abs.AVal.int Go.IntKind.i64 (Go.Abs.King.hardI pots marks)) :: ((Go.Abs.AVal.int Go.IntKind.i64 (Go.Abs.King.hardK pots marks)) :: ((Go.Abs.AVal.int Go.IntKind.i64 (0 : Int)) :: [])))) []))))
theorem eq19 (m : Int) (pots : List (List Int)) (marks : List Int) (k : AVal → List Cont → Prop) : awpF (envOf [(23, mkC [v23]), (43, mkC [v43]), (58, mkC [v58])]) Try.prog kt 19 false Try.f19 (v19.S.enc Unit ((m, pots, marks, ()))).1 [] k = vc19 m pots marks k := by kernel_rfl
theorem tx19 : (Try.f19.body.map Code.textsOk).getD true = true := by kernel_rfl

def vc41 (bits below : Int) (k : AVal → List Cont → Prop) : Prop :=
  Go.Abs.Loop (σ := (Int × (Int × (Int × ((List Int) × Unit))))) (fun K3 x3 =>
    br ((decide (x3.2.2.1 < x3.2.1)))
     (((0 : Int) ≤ x3.2.2.1) ∧
     br (((Go.Abs.bitsA Go.BinOp.and Go.IntKind.i64 (Go.Abs.shrA Go.IntKind.i64 x3.1 x3.2.2.1) (1 : Int)) == (1 : Int)))
      ((((List.length x3.2.2.2.1) + (List.length (x3.2.2.1 :: []))) ≤ Go.Abs.big) ∧
      (Go.Abs.fitsK Go.IntKind.i64 (x3.2.2.1 + (1 : Int))) ∧
      (K3 (x3.1, (x3.2.1, ((x3.2.2.1 + (1 : Int)), ((x3.2.2.2.1 ++ (x3.2.2.1 :: [])), ()))))))
      ((Go.Abs.fitsK Go.IntKind.i64 (x3.2.2.1 + (1 : Int))) ∧
      (K3 (x3.1, (x3.2.1, ((x3.2.2.1 + (1 : Int)), (x3.2.2.2.1, ())))))))
     ((k (Go.Abs.AVal.reg (0 : Nat) Bool.false) ((Go.Abs.Cont.sl (Go.Abs.Ty.int Go.IntKind.i64) x3.2.2.2.1) :: [])))) ((bits, (below, ((0 : Int), ([], ())))))
theorem eq41 (bits below : Int) (k : AVal → List Cont → Prop) : awpF (envOf []) Try.prog kt 41 false Try.f41 (v41.S.enc Unit (bits, below, ())).1 [] k = vc41 bits below k := by kernel_rfl
theorem tx41 : (Try.f41.body.map Code.textsOk).getD true = true := by kernel_rfl

def vc49 (n : Int) (k : AVal → List Cont → Prop) : Prop :=
  ((0 : Int) ≤ n) ∧
  (Go.Abs.fitsK Go.IntKind.i64 ((Go.Abs.shlA Go.IntKind.i64 (1 : Int) n) - (1 : Int))) ∧
  (Go.Abs.King.v41.p (((Go.Abs.shlA Go.IntKind.i64 (1 : Int) n) - (1 : Int)), (n, ()))) ∧
  (k (Go.Abs.AVal.reg (0 : Nat) Bool.false) ((Go.Abs.Cont.sl (Go.Abs.Ty.int Go.IntKind.i64) (Go.Abs.King.listed (Int.toNat ((Go.Abs.shlA Go.IntKind.i64 (1 : Int) n) - (1 : Int))) (Int.toNat n))) :: []))
theorem eq49 (n : Int) (k : AVal → List Cont → Prop) : awpF (envOf [(41, mkC [v41])]) Try.prog kt 49 false Try.f49 (v49.S.enc Unit (n, ())).1 [] k = vc49 n k := by kernel_rfl
theorem tx49 : (Try.f49.body.map Code.textsOk).getD true = true := by kernel_rfl

def vc61 (m : Int) (pots : List (List Int)) (seen : List Int) (k : AVal → List Cont → Prop) : Prop :=
  (Go.Abs.King.v23.p (m, (pots, ()))) ∧
  br (((Go.Abs.King.checkShelf m pots) != (0 : Int)))
   ((Go.Abs.King.v23.p (m, (pots, ()))) ∧
   (k (Go.Abs.AVal.int Go.IntKind.i64 (Go.Abs.King.checkShelf m pots)) []))
   (br (((((List.length seen) : Nat) : Int) != m))
    ((k (Go.Abs.AVal.int Go.IntKind.i64 (15 : Int)) []))
    (Go.Abs.Loop (σ := ((List Int) × (Int × Unit))) (fun K4 x4 =>
      br ((decide (x4.2.1 < (((List.length x4.1) : Nat) : Int))))
       (∃ h6 : (((0 : Int) ≤ x4.2.1) ∧ ((Int.toNat x4.2.1) < (List.length x4.1))),
       br (((decide ((x4.1[(Int.toNat x4.2.1)]'h6.2) < (Neg.neg (1 : Int)))) == Bool.false))
        (∃ h7 : (((0 : Int) ≤ x4.2.1) ∧ ((Int.toNat x4.2.1) < (List.length x4.1))),
        br ((decide ((x4.1[(Int.toNat x4.2.1)]'h7.2) > (4 : Int))))
         ((k (Go.Abs.AVal.int Go.IntKind.i64 (3 : Int)) []))
         ((Go.Abs.fitsK Go.IntKind.i64 (x4.2.1 + (1 : Int))) ∧
         (K4 (x4.1, ((x4.2.1 + (1 : Int)), ())))))
        ((k (Go.Abs.AVal.int Go.IntKind.i64 (3 : Int)) [])))
       ((k (Go.Abs.AVal.int Go.IntKind.i64 (0 : Int)) []))) ((seen, ((0 : Int), ())))))
theorem eq61 (m : Int) (pots : List (List Int)) (seen : List Int) (k : AVal → List Cont → Prop) : awpF (envOf [(23, mkC [v23])]) Try.prog kt 61 false Try.f61 (v61.S.enc Unit (m, pots, seen, ())).1 [] k = vc61 m pots seen k := by kernel_rfl
theorem tx61 : (Try.f61.body.map Code.textsOk).getD true = true := by kernel_rfl

def vc62 (m : Int) (pots : List (List Int)) (seen : List Int) (k : AVal → List Cont → Prop) : Prop :=
  Go.Abs.Loop (σ := ((List Int) × (Int × (Int × (Int × ((List (List Int)) × Unit)))))) (fun K4 x4 =>
    br ((decide (x4.2.2.1 < (((List.length x4.2.2.2.2.1) : Nat) : Int))))
     (Go.Abs.Loop (σ := ((List Int) × (Int × (Int × (Bool × (Int × (Int × ((List (List Int)) × Unit)))))))) (fun K6 x6 =>
       br ((decide (x6.2.2.2.2.1 < x6.2.2.2.2.2.1)))
        (br ((x6.2.2.2.1 == Bool.true))
         (∃ h8 : (((0 : Int) ≤ x6.2.2.2.2.1) ∧ ((Int.toNat x6.2.2.2.2.1) < (List.length x6.1))),
         br (((decide ((x6.1[(Int.toNat x6.2.2.2.2.1)]'h8.2) < (0 : Int))) == Bool.false))
          (∃ h9 : (((0 : Int) ≤ x6.2.2.2.2.1) ∧ ((Int.toNat x6.2.2.2.2.1) < (List.length x6.1))),
          ∃ h10 : (((0 : Int) ≤ x6.2.2.1) ∧ ((Int.toNat x6.2.2.1) < (List.length x6.2.2.2.2.2.2.1))),
          ∃ h11 : (((0 : Int) ≤ x6.2.2.2.2.1) ∧ ((Int.toNat x6.2.2.2.2.1) < (List.length (x6.2.2.2.2.2.2.1[(Int.toNat x6.2.2.1)]'h10.2)))),
          (Go.Abs.fitsK Go.IntKind.i64 (x6.2.2.2.2.1 + (1 : Int))) ∧
          (K6 (x6.1, (x6.2.1, (x6.2.2.1, (((x6.1[(Int.toNat x6.2.2.2.2.1)]'h9.2) == ((x6.2.2.2.2.2.2.1[(Int.toNat x6.2.2.1)]'h10.2)[(Int.toNat x6.2.2.2.2.1)]'h11.2)), ((x6.2.2.2.2.1 + (1 : Int)), (x6.2.2.2.2.2.1, (x6.2.2.2.2.2.2.1, ())))))))))
          ((Go.Abs.fitsK Go.IntKind.i64 (x6.2.2.2.2.1 + (1 : Int))) ∧
          (K6 (x6.1, (x6.2.1, (x6.2.2.1, (Bool.true, ((x6.2.2.2.2.1 + (1 : Int)), (x6.2.2.2.2.2.1, (x6.2.2.2.2.2.2.1, ()))))))))))
         ((Go.Abs.fitsK Go.IntKind.i64 (x6.2.2.2.2.1 + (1 : Int))) ∧
         (K6 (x6.1, (x6.2.1, (x6.2.2.1, (Bool.false, ((x6.2.2.2.2.1 + (1 : Int)), (x6.2.2.2.2.2.1, (x6.2.2.2.2.2.2.1, ()))))))))))
        (br (x6.2.2.2.1)
         (((0 : Int) ≤ x6.2.2.1) ∧
         (Go.Abs.fitsK Go.IntKind.i64 (x6.2.2.1 + (1 : Int))) ∧
         (K4 (x6.1, ((Go.Abs.bitsA Go.BinOp.or Go.IntKind.i64 x6.2.1 (Go.Abs.shlA Go.IntKind.i64 (1 : Int) x6.2.2.1)), ((x6.2.2.1 + (1 : Int)), (x6.2.2.2.2.2.1, (x6.2.2.2.2.2.2.1, ())))))))
         ((Go.Abs.fitsK Go.IntKind.i64 (x6.2.2.1 + (1 : Int))) ∧
         (K4 (x6.1, (x6.2.1, ((x6.2.2.1 + (1 : Int)), (x6.2.2.2.2.2.1, (x6.2.2.2.2.2.2.1, ()))))))))) ((x4.1, (x4.2.1, (x4.2.2.1, (Bool.true, ((0 : Int), (x4.2.2.2.1, (x4.2.2.2.2.1, ())))))))))
     ((k (Go.Abs.AVal.int Go.IntKind.i64 x4.2.1) []))) ((seen, ((0 : Int), ((0 : Int), (m, (pots, ()))))))
theorem eq62 (m : Int) (pots : List (List Int)) (seen : List Int) (k : AVal → List Cont → Prop) : awpF (envOf []) Try.prog kt 62 false Try.f62 (v62.S.enc Unit (m, pots, seen, ())).1 [] k = vc62 m pots seen k := by kernel_rfl
theorem tx62 : (Try.f62.body.map Code.textsOk).getD true = true := by kernel_rfl

def vc90 (m : Int) (pots : List (List Int)) (bits mark value : Int) (k : AVal → List Cont → Prop) : Prop :=
  Go.Abs.Loop (σ := (Int × (Int × (Int × (Int × (Int × (Int × ((List (List Int)) × Unit)))))))) (fun K6 x6 =>
    br ((decide (x6.2.2.2.2.1 < (((List.length x6.2.2.2.2.2.2.1) : Nat) : Int))))
     (((0 : Int) ≤ x6.2.2.2.2.1) ∧
     br ((((Go.Abs.bitsA Go.BinOp.and Go.IntKind.i64 (Go.Abs.shrA Go.IntKind.i64 x6.1 x6.2.2.2.2.1) (1 : Int)) == (1 : Int)) == Bool.true))
      (∃ h8 : (((0 : Int) ≤ x6.2.2.2.2.1) ∧ ((Int.toNat x6.2.2.2.2.1) < (List.length x6.2.2.2.2.2.2.1))),
      ∃ h9 : (((0 : Int) ≤ x6.2.1) ∧ ((Int.toNat x6.2.1) < (List.length (x6.2.2.2.2.2.2.1[(Int.toNat x6.2.2.2.2.1)]'h8.2)))),
      br ((((x6.2.2.2.2.2.2.1[(Int.toNat x6.2.2.2.2.1)]'h8.2)[(Int.toNat x6.2.1)]'h9.2) == x6.2.2.1))
       (((0 : Int) ≤ x6.2.2.2.2.1) ∧
       (Go.Abs.fitsK Go.IntKind.i64 (x6.2.2.2.2.1 + (1 : Int))) ∧
       (K6 (x6.1, (x6.2.1, (x6.2.2.1, ((Go.Abs.bitsA Go.BinOp.or Go.IntKind.i64 x6.2.2.2.1 (Go.Abs.shlA Go.IntKind.i64 (1 : Int) x6.2.2.2.2.1)), ((x6.2.2.2.2.1 + (1 : Int)), (x6.2.2.2.2.2.1, (x6.2.2.2.2.2.2.1, ())))))))))
       ((Go.Abs.fitsK Go.IntKind.i64 (x6.2.2.2.2.1 + (1 : Int))) ∧
       (K6 (x6.1, (x6.2.1, (x6.2.2.1, (x6.2.2.2.1, ((x6.2.2.2.2.1 + (1 : Int)), (x6.2.2.2.2.2.1, (x6.2.2.2.2.2.2.1, ()))))))))))
      ((Go.Abs.fitsK Go.IntKind.i64 (x6.2.2.2.2.1 + (1 : Int))) ∧
      (K6 (x6.1, (x6.2.1, (x6.2.2.1, (x6.2.2.2.1, ((x6.2.2.2.2.1 + (1 : Int)), (x6.2.2.2.2.2.1, (x6.2.2.2.2.2.2.1, ()))))))))))
     ((k (Go.Abs.AVal.int Go.IntKind.i64 x6.2.2.2.1) []))) ((bits, (mark, (value, ((0 : Int), ((0 : Int), (m, (pots, ()))))))))
theorem eq90 (m : Int) (pots : List (List Int)) (bits mark value : Int) (k : AVal → List Cont → Prop) : awpF (envOf []) Try.prog kt 90 false Try.f90 (v90.S.enc Unit (m, pots, bits, mark, value, ())).1 [] k = vc90 m pots bits mark value k := by kernel_rfl
theorem tx90 : (Try.f90.body.map Code.textsOk).getD true = true := by kernel_rfl

def vc45 (m : Int) (pots : List (List Int)) (k : AVal → List Cont → Prop) : Prop :=
  Go.Abs.Loop (σ := (Int × (Int × ((List (List Int)) × ((List Int) × Unit))))) (fun K3 x3 =>
    br ((decide (x3.1 < x3.2.1)))
     ((((List.length x3.2.2.2.1) + (List.length ((Neg.neg (1 : Int)) :: []))) ≤ Go.Abs.big) ∧
     (Go.Abs.fitsK Go.IntKind.i64 (x3.1 + (1 : Int))) ∧
     (K3 ((x3.1 + (1 : Int)), (x3.2.1, (x3.2.2.1, ((x3.2.2.2.1 ++ ((Neg.neg (1 : Int)) :: [])), ()))))))
     ((k (Go.Abs.AVal.reg (0 : Nat) Bool.false) ((Go.Abs.Cont.sl (Go.Abs.Ty.int Go.IntKind.i64) x3.2.2.2.1) :: [])))) (((0 : Int), (m, (pots, ([], ())))))
theorem eq45 (m : Int) (pots : List (List Int)) (k : AVal → List Cont → Prop) : awpF (envOf []) Try.prog kt 45 false Try.f45 (v45.S.enc Unit (m, pots, ())).1 [] k = vc45 m pots k := by kernel_rfl
theorem tx45 : (Try.f45.body.map Code.textsOk).getD true = true := by kernel_rfl

def vc46 (m : Int) (pots : List (List Int)) (pot bits : Int) (k : AVal → List Cont → Prop) : Prop :=
  (Go.Abs.King.v45.p (m, (pots, ()))) ∧
  Go.Abs.Loop (σ := (Int × (Int × (Int × (Int × ((List (List Int)) × ((List Int) × Unit))))))) (fun K5 x5 =>
    br ((decide (x5.2.2.1 < x5.2.2.2.1)))
     (((0 : Int) ≤ x5.2.2.1) ∧
     br (((Go.Abs.bitsA Go.BinOp.and Go.IntKind.u8 (Go.Abs.shrA Go.IntKind.u8 x5.2.1 x5.2.2.1) (1 : Int)) == (1 : Int)))
      (∃ h7 : (((0 : Int) ≤ x5.1) ∧ ((Int.toNat x5.1) < (List.length x5.2.2.2.2.1))),
      ∃ h8 : (((0 : Int) ≤ x5.2.2.1) ∧ ((Int.toNat x5.2.2.1) < (List.length (x5.2.2.2.2.1[(Int.toNat x5.1)]'h7.2)))),
      (((0 : Int) ≤ x5.2.2.1) ∧ ((Int.toNat x5.2.2.1) < (List.length x5.2.2.2.2.2.1))) ∧
      ∃ h9 : ((Int.toNat x5.2.2.1) < (List.length x5.2.2.2.2.2.1)),
      (Go.Abs.fitsK Go.IntKind.i64 (x5.2.2.1 + (1 : Int))) ∧
      (K5 (x5.1, (x5.2.1, ((x5.2.2.1 + (1 : Int)), (x5.2.2.2.1, (x5.2.2.2.2.1, ((List.set x5.2.2.2.2.2.1 (Int.toNat x5.2.2.1) ((x5.2.2.2.2.1[(Int.toNat x5.1)]'h7.2)[(Int.toNat x5.2.2.1)]'h8.2)), ()))))))))
      ((Go.Abs.fitsK Go.IntKind.i64 (x5.2.2.1 + (1 : Int))) ∧
      (K5 (x5.1, (x5.2.1, ((x5.2.2.1 + (1 : Int)), (x5.2.2.2.1, (x5.2.2.2.2.1, (x5.2.2.2.2.2.1, ())))))))))
     ((k (Go.Abs.AVal.reg (0 : Nat) Bool.false) ((Go.Abs.Cont.sl (Go.Abs.Ty.int Go.IntKind.i64) x5.2.2.2.2.2.1) :: [])))) ((pot, (bits, ((0 : Int), (m, (pots, ((List.replicate (Int.toNat m) (Neg.neg (1 : Int))), ())))))))
theorem eq46 (m : Int) (pots : List (List Int)) (pot bits : Int) (k : AVal → List Cont → Prop) : awpF (envOf [(45, mkC [v45])]) Try.prog kt 46 false Try.f46 (v46.S.enc Unit (m, pots, pot, bits, ())).1 [] k = vc46 m pots pot bits k := by kernel_rfl
theorem tx46 : (Try.f46.body.map Code.textsOk).getD true = true := by kernel_rfl

def vc96 (l : List Int) (x : Int) (k : AVal → List Cont → Prop) : Prop :=
  Go.Abs.Loop (σ := ((List Int) × (Int × (Int × (Int × Unit))))) (fun K3 x3 =>
    br ((decide (x3.2.2.2.1 < x3.2.2.1)))
     (∃ h5 : (((0 : Int) ≤ x3.2.2.2.1) ∧ ((Int.toNat x3.2.2.2.1) < (List.length x3.1))),
     br ((x3.2.1 == (x3.1[(Int.toNat x3.2.2.2.1)]'h5.2)))
      ((k (Go.Abs.AVal.int Go.IntKind.i64 x3.2.2.2.1) []))
      ((Go.Abs.fitsK Go.IntKind.i64 (x3.2.2.2.1 + (1 : Int))) ∧
      (K3 (x3.1, (x3.2.1, (x3.2.2.1, ((x3.2.2.2.1 + (1 : Int)), ())))))))
     ((k (Go.Abs.AVal.int Go.IntKind.i64 (Neg.neg (1 : Int))) []))) ((l, (x, ((((List.length l) : Nat) : Int), ((0 : Int), ())))))
theorem eq96 (l : List Int) (x : Int) (k : AVal → List Cont → Prop) : awpF (envOf []) Try.prog kt 96 false Try.f96 (v96.S.enc Unit (l, x, ())).1 [] k = vc96 l x k := by kernel_rfl
theorem tx96 : (Try.f96.body.map Code.textsOk).getD true = true := by kernel_rfl

def vc83 (l : List Int) (x : Int) (k : AVal → List Cont → Prop) : Prop :=
  (Go.Abs.King.v96.p (l, (x, ()))) ∧
  (k (Go.Abs.AVal.bool (decide ((Go.Abs.King.indexI x l) ≥ (0 : Int)))) [])
theorem eq83 (l : List Int) (x : Int) (k : AVal → List Cont → Prop) : awpF (envOf [(96, mkC [v96])]) Try.prog kt 83 false Try.f83 (v83.S.enc Unit (l, x, ())).1 [] k = vc83 l x k := by kernel_rfl
theorem tx83 : (Try.f83.body.map Code.textsOk).getD true = true := by kernel_rfl

def vc81 (n lo hi : Int) (k : AVal → List Cont → Prop) : Prop :=
  br (((decide (n < lo)) == Bool.false))
   ((k (Go.Abs.AVal.bool (decide (n > hi))) []))
   ((k (Go.Abs.AVal.bool Bool.true) []))
theorem eq81 (n lo hi : Int) (k : AVal → List Cont → Prop) : awpF (envOf []) Try.prog kt 81 false Try.f81 (v81.S.enc Unit (n, lo, hi, ())).1 [] k = vc81 n lo hi k := by kernel_rfl
theorem tx81 : (Try.f81.body.map Code.textsOk).getD true = true := by kernel_rfl

def vc82 (n : Int) (marks : List Int) (k : AVal → List Cont → Prop) : Prop :=
  (Go.Abs.King.v83.p (marks, (n, ()))) ∧
  (k (Go.Abs.AVal.bool (Go.Abs.King.hasI marks n)) [])
theorem eq82 (n : Int) (marks : List Int) (k : AVal → List Cont → Prop) : awpF (envOf [(83, mkC [v83])]) Try.prog kt 82 false Try.f82 (v82.S.enc Unit (n, marks, ())).1 [] k = vc82 n marks k := by kernel_rfl
theorem tx82 : (Try.f82.body.map Code.textsOk).getD true = true := by kernel_rfl

def vc95a (l : List Int) (lo hi : Int) (k : AVal → List Cont → Prop) : Prop :=
  Go.Abs.Loop (σ := ((List Int) × (Int × (Int × (Int × (Int × Unit)))))) (fun K4 x4 =>
    br ((decide (x4.2.2.2.2.1 < x4.2.2.2.1)))
     (∃ h6 : (((0 : Int) ≤ x4.2.2.2.2.1) ∧ ((Int.toNat x4.2.2.2.2.1) < (List.length x4.1))),
     (Go.Abs.King.v81.p ((x4.1[(Int.toNat x4.2.2.2.2.1)]'h6.2), (x4.2.1, (x4.2.2.1, ())))) ∧
     br ((Go.Abs.King.outOf x4.2.1 x4.2.2.1 (x4.1[(Int.toNat x4.2.2.2.2.1)]'h6.2)))
      ((k (Go.Abs.AVal.int Go.IntKind.i64 x4.2.2.2.2.1) []))
      ((Go.Abs.fitsK Go.IntKind.i64 (x4.2.2.2.2.1 + (1 : Int))) ∧
      (K4 (x4.1, (x4.2.1, (x4.2.2.1, (x4.2.2.2.1, ((x4.2.2.2.2.1 + (1 : Int)), ()))))))))
     ((k (Go.Abs.AVal.int Go.IntKind.i64 (Neg.neg (1 : Int))) []))) ((l, (lo, (hi, ((((List.length l) : Nat) : Int), ((0 : Int), ()))))))
theorem eq95a (l : List Int) (lo hi : Int) (k : AVal → List Cont → Prop) : awpF (envOf [(81, mkC [v81]), (82, mkC [v82])]) Try.prog kt 95 false Try.f95 (v95a.S.enc Unit (l, lo, hi, ())).1 [] k = vc95a l lo hi k := by kernel_rfl
theorem tx95 : (Try.f95.body.map Code.textsOk).getD true = true := by kernel_rfl

def vc95b (l : List Int) (marks : List Int) (k : AVal → List Cont → Prop) : Prop :=
  Go.Abs.Loop (σ := ((List Int) × ((List Int) × (Int × (Int × Unit))))) (fun K3 x3 =>
    br ((decide (x3.2.2.2.1 < x3.2.2.1)))
     (∃ h5 : (((0 : Int) ≤ x3.2.2.2.1) ∧ ((Int.toNat x3.2.2.2.1) < (List.length x3.1))),
     (Go.Abs.King.v82.p ((x3.1[(Int.toNat x3.2.2.2.1)]'h5.2), (x3.2.1, ()))) ∧
     br ((Go.Abs.King.hasI x3.2.1 (x3.1[(Int.toNat x3.2.2.2.1)]'h5.2)))
      ((k (Go.Abs.AVal.int Go.IntKind.i64 x3.2.2.2.1) []))
      ((Go.Abs.fitsK Go.IntKind.i64 (x3.2.2.2.1 + (1 : Int))) ∧
      (K3 (x3.1, (x3.2.1, (x3.2.2.1, ((x3.2.2.2.1 + (1 : Int)), ())))))))
     ((k (Go.Abs.AVal.int Go.IntKind.i64 (Neg.neg (1 : Int))) []))) ((l, (marks, ((((List.length l) : Nat) : Int), ((0 : Int), ())))))
theorem eq95b (l : List Int) (marks : List Int) (k : AVal → List Cont → Prop) : awpF (envOf [(81, mkC [v81]), (82, mkC [v82])]) Try.prog kt 95 false Try.f95 (v95b.S.enc Unit (l, marks, ())).1 [] k = vc95b l marks k := by kernel_rfl

def vc80a (l : List Int) (lo hi : Int) (k : AVal → List Cont → Prop) : Prop :=
  (Go.Abs.King.v95a.p (l, (lo, (hi, ())))) ∧
  (k (Go.Abs.AVal.bool (decide ((Go.Abs.King.indexOut lo hi l) ≥ (0 : Int)))) [])
theorem eq80a (l : List Int) (lo hi : Int) (k : AVal → List Cont → Prop) : awpF (envOf [(95, mkC [v95a, v95b])]) Try.prog kt 80 false Try.f80 (v80a.S.enc Unit (l, lo, hi, ())).1 [] k = vc80a l lo hi k := by kernel_rfl
theorem tx80 : (Try.f80.body.map Code.textsOk).getD true = true := by kernel_rfl

def vc80b (l : List Int) (marks : List Int) (k : AVal → List Cont → Prop) : Prop :=
  (Go.Abs.King.v95b.p (l, (marks, ()))) ∧
  (k (Go.Abs.AVal.bool (decide ((Go.Abs.King.indexHas l marks) ≥ (0 : Int)))) [])
theorem eq80b (l : List Int) (marks : List Int) (k : AVal → List Cont → Prop) : awpF (envOf [(95, mkC [v95a, v95b])]) Try.prog kt 80 false Try.f80 (v80b.S.enc Unit (l, marks, ())).1 [] k = vc80b l marks k := by kernel_rfl

def vc56 (lo hi : Int) (l : List Int) (k : AVal → List Cont → Prop) : Prop :=
  (Go.Abs.King.v80a.p (l, (lo, (hi, ())))) ∧
  (k (Go.Abs.AVal.bool (Bool.not (Go.Abs.King.anyOut lo hi l))) [])
theorem eq56 (lo hi : Int) (l : List Int) (k : AVal → List Cont → Prop) : awpF (envOf [(80, mkC [v80a, v80b])]) Try.prog kt 56 false Try.f56 (v56.S.enc Unit (lo, hi, l, ())).1 [] k = vc56 lo hi l k := by kernel_rfl
theorem tx56 : (Try.f56.body.map Code.textsOk).getD true = true := by kernel_rfl

end Go.Abs.King
end

section
/- Bits of numbers that are not negative. -/
namespace Go.Abs

theorem ofInt_toNat (a : Nat) (h : a < 9223372036854775808) : (BitVec.ofInt 64 (a : Int)).toNat = a := by
  rw [BitVec.toNat_ofInt]
  have : ((a : Int) % ((2 ^ 64 : Nat) : Int)) = (a : Int) := by
    apply Int.emod_eq_of_lt
    · omega
    · have : ((2 ^ 64 : Nat) : Int) = 18446744073709551616 := by decide
      rw [this]; omega
  rw [this]; simp

theorem wrap_nat (a : Nat) (h : a < 9223372036854775808) : IntKind.i64.wrap (a : Int) = a := by
  rw [IntKind.wrap_i64]; omega

theorem land_nat (a b : Nat) (ha : a < 9223372036854775808) (hb : b < 9223372036854775808) : bitsA .and .i64 a b = ((a &&& b : Nat) : Int) := by
  show IntKind.i64.wrap ((BitVec.ofInt 64 (a : Int) &&& BitVec.ofInt 64 (b : Int)).toNat : Int) = _
  rw [BitVec.toNat_and, ofInt_toNat a ha, ofInt_toNat b hb]
  exact wrap_nat _ (Nat.lt_of_le_of_lt Nat.and_le_left ha)

theorem lor_nat (a b : Nat) (ha : a < 9223372036854775808) (hb : b < 9223372036854775808) : bitsA .or .i64 a b = ((a ||| b : Nat) : Int) := by
  show IntKind.i64.wrap ((BitVec.ofInt 64 (a : Int) ||| BitVec.ofInt 64 (b : Int)).toNat : Int) = _
  rw [BitVec.toNat_or, ofInt_toNat a ha, ofInt_toNat b hb]
  exact wrap_nat _ (by
    have h1 : a < 2 ^ 63 := by simpa using ha
    have h2 : b < 2 ^ 63 := by simpa using hb
    have := Nat.or_lt_two_pow h1 h2
    simpa using this)

theorem shr_nat (a i : Nat) (ha : a < 9223372036854775808) : shrA .i64 a i = ((a >>> i : Nat) : Int) := by
  have e : shrA .i64 (a : Int) (i : Int) = (a : Int).fdiv (2 ^ (min i 64)) := by
    unfold shrA; simp [IntKind.bits]
  rw [e, Nat.shiftRight_eq_div_pow]
  have h2 : ((2 : Int) ^ (min i 64)) = ((2 ^ (min i 64) : Nat) : Int) := by simp
  rw [h2, Int.fdiv_eq_ediv_of_nonneg _ (Int.natCast_nonneg _), ← Int.natCast_ediv]
  congr 1
  rcases Nat.lt_or_ge i 64 with h | h
  · rw [Nat.min_eq_left (by omega)]
  · rw [Nat.min_eq_right h]
    have h64 : a < 2 ^ 64 := by have : (2:Nat) ^ 64 = 18446744073709551616 := by decide
                                omega
    rw [Nat.div_eq_of_lt h64, Nat.div_eq_of_lt (Nat.lt_of_lt_of_le h64 (Nat.pow_le_pow_right (by omega) h))]

theorem shl_nat (a i : Nat) (hi : i ≤ 62) (ha : a * 2 ^ i < 9223372036854775808) : shlA .i64 a i = ((a * 2 ^ i : Nat) : Int) := by
  have e : shlA .i64 (a : Int) (i : Int) = IntKind.i64.wrap ((a : Int) * 2 ^ (min i 64)) := by
    unfold shlA; simp [IntKind.bits]
  rw [e, Nat.min_eq_left (by omega)]
  have h2 : ((a : Int) * (2 : Int) ^ i) = ((a * 2 ^ i : Nat) : Int) := by simp
  rw [h2]
  exact wrap_nat _ ha

/-- Is bit i there? -/
theorem bit_test (a i : Nat) (ha : a < 9223372036854775808) : (bitsA .and .i64 (shrA .i64 a i) 1 == 1) = a.testBit i := by
  rw [shr_nat a i ha]
  have h1 : a >>> i < 9223372036854775808 := Nat.lt_of_le_of_lt (Nat.shiftRight_le a i) ha
  have := land_nat (a >>> i) 1 h1 (by omega)
  rw [show ((1 : Int)) = ((1 : Nat) : Int) from rfl, this]
  rw [Nat.testBit]
  simp only [Nat.and_one_is_mod, Nat.one_and_eq_mod_two]
  generalize a >>> i = q
  have hq : q % 2 = 0 ∨ q % 2 = 1 := by omega
  rcases hq with h | h <;> simp [h]

theorem pow_lt62 (i : Nat) (h : i ≤ 62) : 2 ^ i < 9223372036854775808 := by
  have : 2 ^ i ≤ 2 ^ 62 := Nat.pow_le_pow_right (by omega) h
  have h2 : (2 : Nat) ^ 62 = 4611686018427387904 := by decide
  omega

theorem one_shl (i : Nat) (h : i ≤ 62) : shlA .i64 1 i = ((2 ^ i : Nat) : Int) := by
  have := shl_nat 1 i h (by rw [Nat.one_mul]; exact pow_lt62 i h)
  rw [Nat.one_mul] at this
  exact this
end Go.Abs
end

section
/- The king's functions keep their contracts: first part. -/
open Go.Proofs
set_option maxRecDepth 100000
set_option linter.unusedVariables false
namespace Go.Abs.King
theorem hmix : Try.prog.follows .mixedOrders = true := by kernel_rfl

theorem take_succ_eq {α : Type} (a b : List α) (i : Nat) (ha : i < a.length) (hb : i < b.length) (h : a.take i = b.take i) : a.take (i + 1) = b.take (i + 1) ↔ a[i] = b[i] := by
  have e1 := List.take_succ_eq_append_getElem ha
  have e2 := List.take_succ_eq_append_getElem hb
  rw [e1, e2, h]
  simp only [List.append_cancel_left_eq, List.cons.injEq, and_true]

theorem k24 (hG : Good Try.prog (envOf [])) : v24.Kept Try.prog 24 := by
  rintro ⟨a, b, ⟨⟩⟩ hpre k hk
  change List Int at a b
  refine aspec hmix hG Try.func24 tx24 (Eq.mpr (eq24 a b k) ?_)
  replace hk : k (.bool (eqL a b)) [] := hk
  have hl0 : a.length ≤ 1152921504606846976 := hpre.1
  unfold vc24
  rw [br_bne]
  refine ⟨fun h => ?_, fun h => ?_⟩
  · have : eqL a b = false := by
      simp only [eqL, decide_eq_false_iff_not]
      intro e; subst e; exact h rfl
    rwa [this] at hk
  · have hl : a.length = b.length := by omega
    refine Loop.upto (fun i => (a, b, (i : Int), ())) (fun i => a.take i = b.take i) a.length rfl (by simp) ?_ ?_
    · intro i K hi hp hK
      dsimp only
      rw [br_decide]
      refine ⟨fun _ => ⟨⟨by omega, by omega⟩, ⟨by omega, by omega⟩, ?_⟩, fun h => absurd hi (by omega)⟩
      simp only [Int.toNat_natCast]
      rw [br_bne]
      refine ⟨fun h => ?_, fun h => ⟨fits64 (by omega) (by omega), hK ?_⟩⟩
      · have : eqL a b = false := by
          simp only [eqL, decide_eq_false_iff_not]
          intro e; subst e; exact h rfl
        rwa [this] at hk
      · exact (take_succ_eq a b i hi (by omega) hp).2 h
    · intro K hp
      dsimp only
      rw [br_decide]
      refine ⟨fun h => absurd h (by omega), fun _ => ?_⟩
      have : eqL a b = true := by
        rw [List.take_length, hl, List.take_length] at hp
        simp [eqL, hp]
      rwa [this] at hk

theorem k29 (hG : Good Try.prog (envOf [(24, mkC [v24])])) : v29.Kept Try.prog 29 := by
  rintro ⟨a, b, ⟨⟩⟩ hpre k hk
  change List (List Int) at a b
  refine aspec hmix hG Try.func29 tx29 (Eq.mpr (eq29 a b k) ?_)
  replace hk : k (.bool (eqLL a b)) [] := hk
  have hl0 : a.length ≤ 1152921504606846976 := hpre.1.1
  unfold vc29
  rw [br_bne]
  refine ⟨fun h => ?_, fun h => ?_⟩
  · have : eqLL a b = false := by
      simp only [eqLL, decide_eq_false_iff_not]
      intro e; subst e; exact h rfl
    rwa [this] at hk
  · have hl : a.length = b.length := by omega
    refine Loop.upto (fun i => (a, b, (i : Int), ())) (fun i => a.take i = b.take i) a.length rfl (by simp) ?_ ?_
    · intro i K hi hp hK
      dsimp only
      rw [br_decide]
      refine ⟨fun _ => ⟨⟨by omega, by omega⟩, ⟨by omega, by omega⟩, ?_⟩, fun h => absurd hi (by omega)⟩
      simp only [Int.toNat_natCast]
      rw [br_not]
      refine ⟨⟨hpre.2.1 _ (List.getElem_mem _), hpre.2.2 _ (List.getElem_mem _)⟩, fun h => ?_, fun h => ⟨fits64 (by omega) (by omega), hK ?_⟩⟩
      · have : eqLL a b = false := by
          simp only [eqLL, decide_eq_false_iff_not]
          intro e; subst e; simp [eqL] at h
        rwa [this] at hk
      · exact (take_succ_eq a b i hi (by omega) hp).2 (by simpa [eqL] using h)
    · intro K hp
      dsimp only
      rw [br_decide]
      refine ⟨fun h => absurd h (by omega), fun _ => ?_⟩
      have : eqLL a b = true := by
        rw [List.take_length, hl, List.take_length] at hp
        simp [eqLL, hp]
      rwa [this] at hk

theorem k15 (hG : Good Try.prog (envOf [])) : v15.Kept Try.prog 15 := by
  rintro ⟨m, pots, ⟨⟩⟩ hpre k hk
  change List (List Int) at pots
  refine aspec hmix hG Try.func15 tx15 (Eq.mpr (eq15 m pots k) ?_)
  replace hk : k (.bool (great pots)) [] := hk
  unfold vc15
  rw [br_decide]
  refine ⟨fun h => ?_, fun h => ?_⟩
  · have : great pots = true := by simp [great]; omega
    rwa [this] at hk
  · refine Loop.upto (fun i => ((((pots.take i).foldl (fun n p => max n p.length) 0 : Nat) : Int), ((i : Int), (m, (pots, ()))))) (fun i => True) pots.length rfl trivial ?_ ?_
    · intro i K hi _ hK
      dsimp only
      rw [br_decide]
      refine ⟨fun _ => ⟨⟨by omega, by omega⟩, fits64 (by omega) (by omega), ?_⟩, fun h => absurd hi (by omega)⟩
      simp only [Int.toNat_natCast]
      have e : (if ((pots[i].length : Nat) : Int) > (((pots.take i).foldl (fun n p => max n p.length) 0 : Nat) : Int) then ((pots[i].length : Nat) : Int) else (((pots.take i).foldl (fun n p => max n p.length) 0 : Nat) : Int)) = (((pots.take (i + 1)).foldl (fun n p => max n p.length) 0 : Nat) : Int) := by
        rw [List.take_succ_eq_append_getElem hi, List.foldl_append]
        simp only [List.foldl_cons, List.foldl_nil]
        generalize List.foldl (fun n p => max n p.length) 0 (List.take i pots) = q
        generalize pots[i].length = r
        split <;> omega
      rw [e]
      exact hK trivial
    · intro K _
      dsimp only
      rw [br_decide]
      refine ⟨fun h => absurd h (by omega), fun _ => ?_⟩
      rw [List.take_length]
      have : decide ((((pots.foldl (fun n p => max n p.length) 0 : Nat)) : Int) > 12) = great pots := by
        have key : ∀ (l : List (List Int)) (n : Nat), 12 < l.foldl (fun n p => max n p.length) n ↔ 12 < n ∨ l.any (fun p => decide (12 < p.length)) = true := by
          intro l
          induction l with
          | nil => intro n; simp
          | cons p l ih =>
            intro n
            have h3 : 12 < max n p.length ↔ 12 < n ∨ 12 < p.length := by omega
            simp only [List.foldl_cons, ih, List.any_cons, Bool.or_eq_true, decide_eq_true_eq, h3, or_assoc]
        have h14 : decide (14 < pots.length) = false := by simp; omega
        rw [great, h14, Bool.false_or, Bool.eq_iff_iff, decide_eq_true_eq]
        rw [← show (12 < pots.foldl (fun n p => max n p.length) 0 ↔ pots.any (fun p => decide (12 < p.length)) = true) from by rw [key]; simp]
        omega
      rw [this]
      exact hk

theorem k16 (hG : Good Try.prog (envOf [])) : v16.Kept Try.prog 16 := by
  rintro ⟨l, ⟨⟩⟩ hpre k hk
  change List Int at l
  refine aspec hmix hG Try.func16 tx16 (Eq.mpr (eq16 l k) ?_)
  replace hk : k (.bool (longL l)) [] := hk
  unfold vc16
  have : decide (((l.length : Nat) : Int) > 20) = longL l := by simp only [longL, decide_eq_decide]; omega
  rw [this]
  exact hk

/-! the list's rising -/
theorem rises_iff (b : Int) : ∀ (l : List Int) (a : Int), rises a l b = true ↔ (∀ x ∈ l, a ≤ x ∧ x < b) ∧ l.Pairwise (· < ·)
  | [], a => by simp [rises]
  | x :: l, a => by
    simp only [rises, Bool.and_eq_true, decide_eq_true_eq, rises_iff b l (x + 1), List.mem_cons, List.pairwise_cons]
    constructor
    · rintro ⟨h1, h2, h3⟩
      exact ⟨fun y hy => by
        rcases hy with rfl | hy
        · exact h1
        · have := h2 y hy; omega, fun y hy => by have := h2 y hy; omega, h3⟩
    · rintro ⟨h1, h2, h3⟩
      exact ⟨h1 x (.inl rfl), fun y hy => ⟨by have := h2 y hy; omega, (h1 y (.inr hy)).2⟩, h3⟩

theorem isList_iff (l : List Int) (b : Int) : isList l b = true ↔ (∀ i (h : i < l.length), 0 ≤ l[i] ∧ l[i] < b) ∧ ∀ i (h : i + 1 < l.length), l[i] < l[i + 1] := by
  unfold isList
  rw [rises_iff]
  constructor
  · rintro ⟨h1, h2⟩
    exact ⟨fun i h => h1 _ (List.getElem_mem h), fun i h => List.pairwise_iff_getElem.1 h2 i (i + 1) (by omega) h (by omega)⟩
  · rintro ⟨h1, h2⟩
    refine ⟨fun x hx => ?_, ?_⟩
    · obtain ⟨i, hi, rfl⟩ := List.getElem_of_mem hx
      exact h1 i hi
    · rw [List.pairwise_iff_getElem]
      intro i j hi hj hij
      induction j with
      | zero => omega
      | succ j ih =>
        have h3 := h2 j hj
        rcases Nat.lt_or_ge i j with h | h
        · have := ih (by omega) h; omega
        · obtain rfl : i = j := by omega
          exact h3

theorem k43 (hG : Good Try.prog (envOf [])) : v43.Kept Try.prog 43 := by
  rintro ⟨l, b, ⟨⟩⟩ hpre k hk
  change List Int at l
  change Int at b
  refine aspec hmix hG Try.func43 tx43 (Eq.mpr (eq43 l b k) ?_)
  replace hk : k (.bool (isList l b)) [] := hk
  have hl0 : l.length ≤ big60 := hpre
  simp only [big60] at hl0
  have no : ¬ ((∀ i (h : i < l.length), 0 ≤ l[i] ∧ l[i] < b) ∧ ∀ i (h : i + 1 < l.length), l[i] < l[i + 1]) → k (.bool false) [] := by
    intro h
    have : isList l b = false := by rw [← Bool.not_eq_true, isList_iff]; exact h
    rwa [this] at hk
  unfold vc43
  refine Loop.upto (fun i => (l, b, (i : Int), ())) (fun i => (∀ j (h : j < l.length), j < i → 0 ≤ l[j] ∧ l[j] < b) ∧ ∀ j (h : j + 1 < l.length), j + 1 < i → l[j] < l[j + 1]) l.length rfl ⟨fun j h h' => by omega, fun j h h' => by omega⟩ ?_ ?_
  · intro i K hi hp hK
    dsimp only
    rw [br_decide]
    refine ⟨fun _ => ⟨⟨by omega, by omega⟩, ?_⟩, fun h => absurd hi (by omega)⟩
    simp only [Int.toNat_natCast]
    rw [br_false]
    refine ⟨fun h1 => ⟨⟨by omega, by omega⟩, ?_⟩, fun h1 => ?_⟩
    rw [br_false]
    refine ⟨fun h2 => ?_, fun h2 => ?_⟩
    rw [br_true]
    refine ⟨fun h3 => ⟨⟨by omega, by omega⟩, fits64 (by omega) (by omega), ⟨by omega, by omega⟩, ?_⟩, fun h3 => ⟨fits64 (by omega) (by omega), hK ?_⟩⟩
    rw [br_decide]
    refine ⟨fun h4 => ?_, fun h4 => ⟨fits64 (by omega) (by omega), hK ?_⟩⟩
    · refine no (fun h => ?_)
      have e : ((i : Int) - 1).toNat = i - 1 := by omega
      have := h.2 (i - 1) (by omega)
      simp only [e] at h4
      have e2 : i - 1 + 1 = i := by omega
      simp only [e2] at this
      omega
    · refine ⟨fun j hj hji => ?_, fun j hj hji => ?_⟩
      · rcases Nat.lt_or_ge j i with h | h
        · exact hp.1 j hj h
        · obtain rfl : j = i := by omega
          omega
      · rcases Nat.lt_or_ge (j + 1) i with h | h
        · exact hp.2 j hj h
        · obtain rfl : i = j + 1 := by omega
          have e : (((j + 1 : Nat) : Int) - 1).toNat = j := by omega
          simp only [e] at h4
          omega
    · refine ⟨fun j hj hji => ?_, fun j hj hji => ?_⟩
      · rcases Nat.lt_or_ge j i with h | h
        · exact hp.1 j hj h
        · obtain rfl : j = i := by omega
          omega
      · omega
    · refine no (fun h => ?_)
      have := (h.1 i hi).2
      omega
    · refine no (fun h => ?_)
      have := (h.1 i hi).1
      omega
  · intro K hp
    dsimp only
    rw [br_decide]
    refine ⟨fun h => absurd h (by omega), fun _ => ?_⟩
    have : isList l b = true := (isList_iff l b).2 ⟨fun i h => hp.1 i h h, fun i h => hp.2 i h h⟩
    rwa [this] at hk
end Go.Abs.King
end

section
/- The king's functions keep their contracts: second part. -/
open Go.Proofs
set_option maxRecDepth 100000
set_option linter.unusedVariables false
namespace Go.Abs.King

theorem fine_spec {m : Int} {pots : List (List Int)} (h : checkShelf m pots = 0) : (1 ≤ m ∧ m ≤ 6) ∧ (1 ≤ pots.length ∧ pots.length ≤ 8) ∧ (∀ p ∈ pots, (p.length : Int) = m) ∧ ∀ p ∈ pots, ∀ x ∈ p, 0 ≤ x ∧ x ≤ 4 := by
  unfold checkShelf at h
  split at h
  · omega
  · rename_i h1
    split at h
    · omega
    · rename_i h2
      split at h
      · omega
      · rename_i h3
        refine ⟨by omega, by omega, fun p hp => ?_, fun p hp x hx => ?_⟩
        · simp only [List.any_eq_true, not_exists, not_and, decide_eq_true_eq, ne_eq, Classical.not_not] at h2
          exact h2 p hp
        · simp only [List.any_eq_true, not_exists, not_and, decide_eq_true_eq] at h3
          have := h3 p hp x hx
          omega

theorem mk_eq {pots : List (List Int)} {i j : Nat} (hi : i < pots.length) (hj : j < pots[i].length) : mk pots i j = pots[i][j] := by
  simp [mk, List.getD_eq_getElem?_getD, hi, hj]

theorem any_take_succ {α : Type} (f : α → Bool) (l : List α) (i : Nat) (h : i < l.length) : (l.take (i + 1)).any f = ((l.take i).any f || f l[i]) := by
  rw [List.take_succ_eq_append_getElem h, List.any_append]; simp

theorem k44 (hG : Good Try.prog (envOf [])) : v44.Kept Try.prog 44 := by
  rintro ⟨m, pots, marks, one, two, ⟨⟩⟩ hpre k hk
  change List (List Int) at pots
  change List Int at marks
  change Int at m one two
  refine aspec hmix hG Try.func44 tx44 (Eq.mpr (eq44 m pots marks one two k) ?_)
  replace hk : k (.bool (tells pots marks one two)) [] := hk
  obtain ⟨hf, hl, hm, h1, h2⟩ := hpre
  have hf : checkShelf m pots = 0 := hf
  have hl0 : marks.length ≤ big60 := hl
  simp only [big60] at hl0
  have hm : ∀ j ∈ marks, 0 ≤ j ∧ j < m := hm
  have h1 : 0 ≤ one ∧ one < (pots.length : Int) := h1
  have h2 : 0 ≤ two ∧ two < (pots.length : Int) := h2
  obtain ⟨f1, f2, f3, f4⟩ := fine_spec hf
  unfold vc44
  refine Loop.upto (fun i => (marks, one, two, (i : Int), m, pots, ())) (fun i => (marks.take i).any (fun j => decide (mkI pots one j ≠ mkI pots two j)) = false) marks.length rfl (by simp) ?_ ?_
  · intro i K hi hp hK
    dsimp only
    rw [br_decide]
    have g1 : one.toNat < pots.length := by omega
    have g2 : two.toNat < pots.length := by omega
    have g3 := hm _ (List.getElem_mem hi)
    have g4 := f3 _ (List.getElem_mem g1)
    have g5 := f3 _ (List.getElem_mem g2)
    simp only [Int.toNat_natCast]
    refine ⟨fun _ => ⟨⟨h1.1, g1⟩, ⟨by omega, hi⟩, ⟨g3.1, by omega⟩, ⟨h2.1, g2⟩, ⟨by omega, hi⟩, ⟨g3.1, by omega⟩, ?_⟩, fun h => absurd hi (by omega)⟩
    have q1 : marks[i].toNat < pots[one.toNat].length := by omega
    have q2 : marks[i].toNat < pots[two.toNat].length := by omega
    have e1 : mkI pots one marks[i] = pots[one.toNat][marks[i].toNat] := mk_eq g1 q1
    have e2 : mkI pots two marks[i] = pots[two.toNat][marks[i].toNat] := mk_eq g2 q2
    rw [br_bne, ← e1, ← e2]
    refine ⟨fun h => ?_, fun h => ⟨fits64 (by omega) (by omega), hK ?_⟩⟩
    · have : tells pots marks one two = true := by
        unfold tells
        rw [List.any_eq_true]
        exact ⟨_, List.getElem_mem hi, by simpa using h⟩
      rwa [this] at hk
    · rw [any_take_succ _ _ _ hi, hp]
      simpa using h
  · intro K hp
    dsimp only
    rw [br_decide]
    refine ⟨fun h => absurd h (by omega), fun _ => ?_⟩
    rw [List.take_length] at hp
    have : tells pots marks one two = false := hp
    rwa [this] at hk

/-! pairs -/
theorem find_flat {α β : Type} (f : α → List β) (p : β → Bool) : ∀ (l : List α), (l.flatMap f).find? p = l.findSome? (fun a => (f a).find? p)
  | [] => rfl
  | a :: l => by
    rw [List.flatMap_cons, List.find?_append, List.findSome?_cons, find_flat f p l]
    cases (f a).find? p <;> rfl

def hardIn (pots : List (List Int)) (marks : List Int) (i : Nat) : Option Nat := (List.range' (i + 1) (pots.length - (i + 1))).find? (fun k => !tells pots marks i k)

theorem hardP_eq (pots : List (List Int)) (marks : List Int) : hardP pots marks = (List.range pots.length).findSome? (fun i => (hardIn pots marks i).map (fun k => (i, k))) := by
  unfold hardP pairs
  rw [find_flat]
  congr 1
  funext i
  unfold hardIn
  rw [List.find?_map]
  rfl

theorem findSome_range {α : Type} (f : Nat → Option α) : ∀ (n i : Nat), i ≤ n → (∀ j, j < i → f j = none) → (List.range n).findSome? f = (List.range' i (n - i)).findSome? f := by
  intro n i
  induction i with
  | zero => intro _ _; rw [Nat.sub_zero, List.range_eq_range']
  | succ i ih =>
    intro hi h
    rw [ih (by omega) (fun j hj => h j (by omega))]
    have e : n - i = (n - (i + 1)) + 1 := by omega
    rw [e, List.range'_succ, List.findSome?_cons, h i (by omega)]

theorem find_range' (p : Nat → Bool) : ∀ (n a i : Nat), a ≤ i → i ≤ a + n → (∀ j, a ≤ j → j < i → p j = false) → (List.range' a n).find? p = (List.range' i (a + n - i)).find? p := by
  intro n a i
  induction i with
  | zero => intro h1 h2 _; obtain rfl : a = 0 := by omega
            simp
  | succ i ih =>
    intro h1 h2 h
    rcases Nat.lt_or_ge i a with hia | hia
    · obtain rfl : a = i + 1 := by omega
      simp
    · rw [ih hia (by omega) (fun j h1 h2 => h j h1 (by omega))]
      have e : a + n - i = (a + n - (i + 1)) + 1 := by omega
      rw [e, List.range'_succ, List.find?_cons, h i hia (by omega)]

theorem k58 (hG : Good Try.prog (envOf [(44, mkC [v44])])) : v58.Kept Try.prog 58 := by
  rintro ⟨m, pots, marks, ⟨⟩⟩ hpre k hk
  change List (List Int) at pots
  change List Int at marks
  change Int at m
  refine aspec hmix hG Try.func58 tx58 (Eq.mpr (eq58 m pots marks k) ?_)
  replace hk : k (.tup [rI (hardI pots marks), rI (hardK pots marks), .bool (hardB pots marks)]) [] := hk
  obtain ⟨hf, hl, hm⟩ := hpre
  have hf : checkShelf m pots = 0 := hf
  obtain ⟨f1, f2, f3, f4⟩ := fine_spec hf
  unfold vc58
  refine Loop.upto (fun i => (marks, (i : Int), m, pots, ())) (fun i => ∀ j, j < i → hardIn pots marks j = none) pots.length rfl (fun j h => by omega) ?_ ?_
  · intro i K hi hp hK
    dsimp only
    rw [br_decide]
    refine ⟨fun _ => ⟨fits64 (by omega) (by omega), ?_⟩, fun h => absurd hi (by omega)⟩
    refine Loop.upto (fun j => (marks, (i : Int), ((i + 1 + j : Nat) : Int), m, pots, ())) (fun j => ∀ k, i + 1 ≤ k → k < i + 1 + j → (!tells pots marks i k) = false) (pots.length - (i + 1)) rfl (fun k h1 h2 => by omega) ?_ ?_
    · intro j K2 hj hp2 hK2
      dsimp only
      rw [br_decide]
      refine ⟨fun _ => ⟨⟨hf, hl, hm, ⟨by show (0 : Int) ≤ (i : Int); omega, by show (i : Int) < (pots.length : Int); omega⟩, ⟨by show (0 : Int) ≤ ((i + 1 + j : Nat) : Int); omega, by show ((i + 1 + j : Nat) : Int) < (pots.length : Int); omega⟩⟩, ?_⟩, fun h => absurd hj (by omega)⟩
      rw [br_not]
      refine ⟨fun h => ?_, fun h => ⟨fits64 (by omega) (by omega), hK2 ?_⟩⟩
      · have e : hardIn pots marks i = some (i + 1 + j) := by
          unfold hardIn
          rw [find_range' _ _ _ (i + 1 + j) (by omega) (by omega) hp2]
          have e2 : i + 1 + (pots.length - (i + 1)) - (i + 1 + j) = (pots.length - (i + 1 + j + 1)) + 1 := by omega
          rw [e2, List.range'_succ, List.find?_cons, h]
          rfl
        have e3 : hardP pots marks = some (i, i + 1 + j) := by
          rw [hardP_eq, findSome_range _ _ i (by omega) (fun j hj => by simp [hp j hj])]
          have e2 : pots.length - i = (pots.length - (i + 1)) + 1 := by omega
          rw [e2, List.range'_succ, List.findSome?_cons, e]
          rfl
        simp only [hardI, hardK, hardB, hardOf, e3] at hk
        exact hk
      · intro k h1 h2
        rcases Nat.lt_or_ge k (i + 1 + j) with h' | h'
        · exact hp2 k h1 h'
        · obtain rfl : k = i + 1 + j := by omega
          rw [h]; rfl
    · intro K2 hp2
      dsimp only
      rw [br_decide]
      refine ⟨fun h => absurd h (by omega), fun _ => ⟨fits64 (by omega) (by omega), hK ?_⟩⟩
      intro j hj
      rcases Nat.lt_or_ge j i with h' | h'
      · exact hp j h'
      · obtain rfl : j = i := by omega
        unfold hardIn
        rw [find_range' _ _ _ (j + 1 + (pots.length - (j + 1))) (by omega) (by omega) hp2]
        simp
  · intro K hp
    dsimp only
    rw [br_decide]
    refine ⟨fun h => absurd h (by omega), fun _ => ?_⟩
    have e3 : hardP pots marks = none := by
      rw [hardP_eq, findSome_range _ _ pots.length (by omega) (fun j hj => by simp [hp j hj])]
      simp
    simp only [hardI, hardK, hardB, hardOf, e3] at hk
    exact hk

theorem k19 (hG : Good Try.prog (envOf [(23, mkC [v23]), (43, mkC [v43]), (58, mkC [v58])])) : v19.Kept Try.prog 19 := by
  rintro ⟨m, pots, marks, ⟨⟩⟩ hpre k hk
  change List (List Int) at pots
  change List Int at marks
  change Int at m
  refine aspec hmix hG Try.func19 tx19 (Eq.mpr (eq19 m pots marks k) ?_)
  replace hk : k (.tup [rI (hardX m pots marks), rI (hardY m pots marks), rI (hardN m pots marks)]) [] := hk
  obtain ⟨hp, hl⟩ := hpre
  unfold vc19
  rw [br_bne]
  refine ⟨hp, fun h => ⟨hp, ?_⟩, fun h => ⟨hl, ?_⟩⟩
  · have e : hardN m pots marks = checkShelf m pots := by simp [hardN, h]
    simp only [hardX, hardY, e, if_neg h] at hk
    exact hk
  · rw [br_not]
    refine ⟨fun h2 => ?_, fun h2 => ⟨⟨h, hl, ?_⟩, ?_⟩⟩
    · have e : hardN m pots marks = 2 := by simp [hardN, h, h2]
      simp only [hardX, hardY, e] at hk
      exact hk
    · intro j hj
      have := ((rises_iff m marks 0).1 h2).1 j hj
      exact this
    · rw [br_not]
      refine ⟨fun h3 => ?_, fun h3 => ?_⟩
      · have e : hardN m pots marks = 5 := by simp [hardN, h, h2, h3]
        simp only [hardX, hardY, e] at hk
        exact hk
      · have e : hardN m pots marks = 0 := by simp [hardN, h, h2, h3]
        simp only [hardX, hardY, e, if_true] at hk
        exact hk

/-! the check of a shelf -/
theorem cs_many {m : Int} {pots : List (List Int)} (h : m < 1 ∨ 6 < m ∨ pots.length < 1 ∨ 8 < pots.length) : checkShelf m pots = 6 := by
  unfold checkShelf; rw [if_pos h]
theorem cs_equal {m : Int} {pots : List (List Int)} (h : ¬ (m < 1 ∨ 6 < m ∨ pots.length < 1 ∨ 8 < pots.length)) {p : List Int} (hp : p ∈ pots) (hl : (p.length : Int) ≠ m) : checkShelf m pots = 15 := by
  unfold checkShelf; rw [if_neg h, if_pos]
  rw [List.any_eq_true]; exact ⟨p, hp, by simpa using hl⟩
theorem cs_range {m : Int} {pots : List (List Int)} (h : ¬ (m < 1 ∨ 6 < m ∨ pots.length < 1 ∨ 8 < pots.length)) (h2 : ∀ p ∈ pots, (p.length : Int) = m) {p : List Int} (hp : p ∈ pots) {x : Int} (hx : x ∈ p) (hb : x < 0 ∨ 4 < x) : checkShelf m pots = 3 := by
  unfold checkShelf; rw [if_neg h, if_neg, if_pos]
  · rw [List.any_eq_true]; exact ⟨p, hp, by rw [List.any_eq_true]; exact ⟨x, hx, by simpa using hb⟩⟩
  · rw [List.any_eq_true]; rintro ⟨q, hq, h3⟩; exact (by simpa using h3 : ¬ (q.length : Int) = m) (h2 q hq)
theorem cs_ok {m : Int} {pots : List (List Int)} (h : ¬ (m < 1 ∨ 6 < m ∨ pots.length < 1 ∨ 8 < pots.length)) (h2 : ∀ p ∈ pots, (p.length : Int) = m) (h3 : ∀ p ∈ pots, ∀ x ∈ p, ¬ (x < 0 ∨ 4 < x)) : checkShelf m pots = 0 := by
  unfold checkShelf; rw [if_neg h, if_neg, if_neg]
  · simp only [List.any_eq_true, not_exists, not_and, decide_eq_true_eq]; exact h3
  · simp only [List.any_eq_true, not_exists, not_and, decide_eq_true_eq, ne_eq, Classical.not_not]; exact h2

theorem k23 (hG : Good Try.prog (envOf [])) : v23.Kept Try.prog 23 := by
  rintro ⟨m, pots, ⟨⟩⟩ hpre k hk
  change List (List Int) at pots
  change Int at m
  refine aspec hmix hG Try.func23 tx23 (Eq.mpr (eq23 m pots k) ?_)
  replace hk : k (rI (checkShelf m pots)) [] := hk
  have hp : pots.length ≤ 14 := hpre
  unfold vc23
  rw [br_false]
  refine ⟨fun h1 => ?_, fun h1 => by rw [cs_many (.inl h1)] at hk; exact hk⟩
  rw [br_false]
  refine ⟨fun h2 => ?_, fun h2 => by rw [cs_many (.inr (.inl h2))] at hk; exact hk⟩
  rw [br_false]
  refine ⟨fun h3 => ?_, fun h3 => by rw [cs_many (.inr (.inr (.inl (by omega))))] at hk; exact hk⟩
  rw [br_decide]
  refine ⟨fun h4 => by rw [cs_many (.inr (.inr (.inr (by omega))))] at hk; exact hk, fun h4 => ?_⟩
  have hmany : ¬ (m < 1 ∨ 6 < m ∨ pots.length < 1 ∨ 8 < pots.length) := by omega
  refine Loop.upto (fun i => ((i : Int), m, pots, ())) (fun i => ∀ j (h : j < pots.length), j < i → (pots[j].length : Int) = m) pots.length rfl (fun j h h' => by omega) ?_ ?_
  · intro i K hi hp2 hK
    dsimp only
    rw [br_decide]
    refine ⟨fun _ => ⟨⟨by omega, by omega⟩, ?_⟩, fun h => absurd hi (by omega)⟩
    simp only [Int.toNat_natCast]
    rw [br_bne]
    refine ⟨fun h => by rw [cs_equal hmany (List.getElem_mem hi) h] at hk; exact hk, fun h => ⟨fits64 (by omega) (by omega), hK ?_⟩⟩
    intro j hj hji
    rcases Nat.lt_or_ge j i with h' | h'
    · exact hp2 j hj h'
    · obtain rfl : j = i := by omega
      exact h
  intro K hp2
  dsimp only
  rw [br_decide]
  refine ⟨fun h => absurd h (by omega), fun _ => ?_⟩
  have hall : ∀ p ∈ pots, (p.length : Int) = m := by
    intro p hp
    obtain ⟨i, hi, rfl⟩ := List.getElem_of_mem hp
    exact hp2 i hi hi
  refine Loop.upto (fun i => ((i : Int), m, pots, ())) (fun i => ∀ j (h : j < pots.length), j < i → ∀ x ∈ pots[j], ¬ (x < 0 ∨ 4 < x)) pots.length rfl (fun j h h' => by omega) ?_ ?_
  · intro i K hi hp3 hK
    dsimp only
    rw [br_decide]
    refine ⟨fun _ => ?_, fun h => absurd hi (by omega)⟩
    have hlen := hall _ (List.getElem_mem hi)
    refine Loop.upto (fun j => ((i : Int), (j : Int), m, pots, ())) (fun j => ∀ x ∈ pots[i].take j, ¬ (x < 0 ∨ 4 < x)) pots[i].length rfl (by simp) ?_ ?_
    · intro j K2 hj hp4 hK2
      dsimp only
      rw [br_decide]
      refine ⟨fun _ => ⟨⟨by omega, by omega⟩, ?_⟩, fun h => absurd hj (by omega)⟩
      simp only [Int.toNat_natCast]
      refine ⟨⟨by omega, hj⟩, ?_⟩
      rw [br_false]
      refine ⟨fun h5 => ⟨⟨by omega, by omega⟩, ⟨by omega, hj⟩, ?_⟩, fun h5 => by rw [cs_range hmany hall (List.getElem_mem hi) (List.getElem_mem hj) (.inl h5)] at hk; exact hk⟩
      rw [br_decide]
      refine ⟨fun h6 => by rw [cs_range hmany hall (List.getElem_mem hi) (List.getElem_mem hj) (.inr h6)] at hk; exact hk, fun h6 => ⟨fits64 (by omega) (by omega), hK2 ?_⟩⟩
      intro x hx
      rw [List.take_succ_eq_append_getElem hj, List.mem_append] at hx
      rcases hx with hx | hx
      · exact hp4 x hx
      · simp only [List.mem_singleton] at hx
        subst hx
        omega
    · intro K2 hp4
      dsimp only
      rw [br_decide]
      refine ⟨fun h => absurd h (by omega), fun _ => ⟨fits64 (by omega) (by omega), hK ?_⟩⟩
      intro j hj hji
      rcases Nat.lt_or_ge j i with h' | h'
      · exact hp3 j hj h'
      · obtain rfl : j = i := by omega
        rw [List.take_length] at hp4
        exact hp4
  · intro K hp3
    dsimp only
    rw [br_decide]
    refine ⟨fun h => absurd h (by omega), fun _ => ?_⟩
    rw [cs_ok hmany hall (fun p hp x hx => by
      obtain ⟨i, hi, rfl⟩ := List.getElem_of_mem hp
      exact hp3 i hi hi x hx)] at hk
    exact hk
end Go.Abs.King
end

section
/- The king's functions keep their contracts: third part. -/
open Go.Proofs
set_option maxRecDepth 100000
set_option linter.unusedVariables false
namespace Go.Abs.King

/-! ### searches -/
theorem indexOf_none {α : Type} (p : α → Bool) : ∀ (l : List α), (∀ x ∈ l, p x = false) → indexOf p l = -1
  | [], _ => rfl
  | x :: l, h => by
    unfold indexOf
    rw [h x (by simp), indexOf_none p l (fun y hy => h y (List.mem_cons_of_mem _ hy))]
    simp
theorem indexOf_some {α : Type} (p : α → Bool) : ∀ (l : List α) (i : Nat) (hi : i < l.length), (∀ x ∈ l.take i, p x = false) → p l[i] = true → indexOf p l = (i : Int)
  | x :: l, 0, _, _, h => by
    unfold indexOf
    simp only [List.getElem_cons_zero] at h
    rw [h]; rfl
  | x :: l, i + 1, hi, h1, h2 => by
    unfold indexOf
    rw [h1 x (by simp), indexOf_some p l i (by simpa using hi) (fun y hy => h1 y (by simp [hy])) (by simpa using h2)]
    simp only [Bool.false_eq_true, if_false]
    rw [if_neg (by omega)]
    omega
theorem indexOf_ge {α : Type} (p : α → Bool) (l : List α) : decide (indexOf p l ≥ 0) = l.any p := by
  induction l with
  | nil => simp [indexOf]
  | cons x l ih =>
    unfold indexOf
    rw [List.any_cons]
    cases hx : p x with
    | true => simp
    | false =>
      simp only [Bool.false_eq_true, if_false, Bool.false_or]
      rw [← ih]
      by_cases h : indexOf p l < 0
      · rw [if_pos h]
        have : ¬ indexOf p l ≥ 0 := by omega
        simp [this]
      · rw [if_neg h]
        have h1 : indexOf p l ≥ 0 := by omega
        have h2 : indexOf p l + 1 ≥ 0 := by omega
        simp [h1, h2]

theorem take_all_succ {α : Type} (p : α → Bool) (l : List α) (i : Nat) (hi : i < l.length) (h : ∀ x ∈ l.take i, p x = false) (h2 : p l[i] = false) : ∀ x ∈ l.take (i + 1), p x = false := by
  intro x hx
  rw [List.take_succ_eq_append_getElem hi, List.mem_append] at hx
  rcases hx with hx | hx
  · exact h x hx
  · simp only [List.mem_singleton] at hx; subst hx; exact h2

theorem k96 (hG : Good Try.prog (envOf [])) : v96.Kept Try.prog 96 := by
  rintro ⟨l, x, ⟨⟩⟩ hpre k hk
  change List Int at l
  change Int at x
  refine aspec hmix hG Try.func96 tx96 (Eq.mpr (eq96 l x k) ?_)
  replace hk : k (rI (indexI x l)) [] := hk
  have hl0 : l.length ≤ big60 := hpre
  simp only [big60] at hl0
  unfold vc96
  refine Loop.upto (fun i => (l, x, ((l.length : Nat) : Int), (i : Int), ())) (fun i => ∀ y ∈ l.take i, isI x y = false) l.length rfl (by simp) ?_ ?_
  · intro i K hi hp hK
    dsimp only
    rw [br_decide]
    refine ⟨fun _ => ⟨⟨by omega, by omega⟩, ?_⟩, fun h => absurd hi (by omega)⟩
    simp only [Int.toNat_natCast]
    rw [br_beq]
    refine ⟨fun h => ?_, fun h => ⟨fits64 (by omega) (by omega), hK (take_all_succ _ _ _ hi hp (by simpa [isI] using h))⟩⟩
    have : indexI x l = (i : Int) := indexOf_some _ l i hi hp (by simpa [isI] using h)
    rwa [this] at hk
  · intro K hp
    dsimp only
    rw [br_decide]
    refine ⟨fun h => absurd h (by omega), fun _ => ?_⟩
    rw [List.take_length] at hp
    have : indexI x l = -1 := indexOf_none _ l hp
    rwa [this] at hk

theorem k83 (hG : Good Try.prog (envOf [(96, mkC [v96])])) : v83.Kept Try.prog 83 := by
  rintro ⟨l, x, ⟨⟩⟩ hpre k hk
  change List Int at l
  change Int at x
  refine aspec hmix hG Try.func83 tx83 (Eq.mpr (eq83 l x k) ?_)
  replace hk : k (.bool (hasI l x)) [] := hk
  unfold vc83
  refine ⟨hpre, ?_⟩
  have : decide (indexI x l ≥ 0) = hasI l x := indexOf_ge _ l
  rwa [this]

theorem k81 (hG : Good Try.prog (envOf [])) : v81.Kept Try.prog 81 := by
  rintro ⟨n, lo, hi, ⟨⟩⟩ hpre k hk
  change Int at n lo hi
  refine aspec hmix hG Try.func81 tx81 (Eq.mpr (eq81 n lo hi k) ?_)
  replace hk : k (.bool (outOf lo hi n)) [] := hk
  unfold vc81
  rw [br_false]
  refine ⟨fun h => ?_, fun h => ?_⟩
  · have : outOf lo hi n = decide (n > hi) := by simp only [outOf, decide_eq_decide]; omega
    rwa [this] at hk
  · have : outOf lo hi n = true := by simp [outOf, h]
    rwa [this] at hk

theorem k82 (hG : Good Try.prog (envOf [(83, mkC [v83])])) : v82.Kept Try.prog 82 := by
  rintro ⟨n, marks, ⟨⟩⟩ hpre k hk
  change Int at n
  change List Int at marks
  refine aspec hmix hG Try.func82 tx82 (Eq.mpr (eq82 n marks k) ?_)
  exact ⟨hpre, hk⟩

theorem k95a (hG : Good Try.prog (envOf [(81, mkC [v81]), (82, mkC [v82])])) : v95a.Kept Try.prog 95 := by
  rintro ⟨l, lo, hi, ⟨⟩⟩ hpre k hk
  change List Int at l
  change Int at lo hi
  refine aspec hmix hG Try.func95 tx95 (Eq.mpr (eq95a l lo hi k) ?_)
  replace hk : k (rI (indexOut lo hi l)) [] := hk
  have hl0 : l.length ≤ big60 := hpre
  simp only [big60] at hl0
  unfold vc95a
  refine Loop.upto (fun i => (l, lo, hi, ((l.length : Nat) : Int), (i : Int), ())) (fun i => ∀ y ∈ l.take i, outOf lo hi y = false) l.length rfl (by simp) ?_ ?_
  · intro i K hi' hp hK
    dsimp only
    rw [br_decide]
    refine ⟨fun _ => ⟨⟨by omega, by omega⟩, trivial, ?_⟩, fun h => absurd hi' (by omega)⟩
    simp only [Int.toNat_natCast]
    refine br_intro (fun h => ?_) (fun h => ⟨fits64 (by omega) (by omega), hK (take_all_succ _ _ _ hi' hp h)⟩)
    have : indexOut lo hi l = (i : Int) := indexOf_some _ l i hi' hp h
    rwa [this] at hk
  · intro K hp
    dsimp only
    rw [br_decide]
    refine ⟨fun h => absurd h (by omega), fun _ => ?_⟩
    rw [List.take_length] at hp
    have : indexOut lo hi l = -1 := indexOf_none _ l hp
    rwa [this] at hk

theorem k95b (hG : Good Try.prog (envOf [(81, mkC [v81]), (82, mkC [v82])])) : v95b.Kept Try.prog 95 := by
  rintro ⟨l, marks, ⟨⟩⟩ hpre k hk
  change List Int at l
  change List Int at marks
  refine aspec hmix hG Try.func95 tx95 (Eq.mpr (eq95b l marks k) ?_)
  replace hk : k (rI (indexHas l marks)) [] := hk
  have hl0 : l.length ≤ big60 := hpre.1
  simp only [big60] at hl0
  unfold vc95b
  refine Loop.upto (fun i => (l, marks, ((l.length : Nat) : Int), (i : Int), ())) (fun i => ∀ y ∈ l.take i, hasI marks y = false) l.length rfl (by simp) ?_ ?_
  · intro i K hi' hp hK
    dsimp only
    rw [br_decide]
    refine ⟨fun _ => ⟨⟨by omega, by omega⟩, hpre.2, ?_⟩, fun h => absurd hi' (by omega)⟩
    simp only [Int.toNat_natCast]
    refine br_intro (fun h => ?_) (fun h => ⟨fits64 (by omega) (by omega), hK (take_all_succ _ _ _ hi' hp h)⟩)
    have : indexHas l marks = (i : Int) := indexOf_some _ l i hi' hp h
    rwa [this] at hk
  · intro K hp
    dsimp only
    rw [br_decide]
    refine ⟨fun h => absurd h (by omega), fun _ => ?_⟩
    rw [List.take_length] at hp
    have : indexHas l marks = -1 := indexOf_none _ l hp
    rwa [this] at hk

theorem k80a (hG : Good Try.prog (envOf [(95, mkC [v95a, v95b])])) : v80a.Kept Try.prog 80 := by
  rintro ⟨l, lo, hi, ⟨⟩⟩ hpre k hk
  change List Int at l
  change Int at lo hi
  refine aspec hmix hG Try.func80 tx80 (Eq.mpr (eq80a l lo hi k) ?_)
  replace hk : k (.bool (anyOut lo hi l)) [] := hk
  unfold vc80a
  refine ⟨hpre, ?_⟩
  have : decide (indexOut lo hi l ≥ 0) = anyOut lo hi l := indexOf_ge _ l
  rwa [this]
theorem k80b (hG : Good Try.prog (envOf [(95, mkC [v95a, v95b])])) : v80b.Kept Try.prog 80 := by
  rintro ⟨l, marks, ⟨⟩⟩ hpre k hk
  change List Int at l
  change List Int at marks
  refine aspec hmix hG Try.func80 tx80 (Eq.mpr (eq80b l marks k) ?_)
  replace hk : k (.bool (anyHas l marks)) [] := hk
  unfold vc80b
  refine ⟨hpre, ?_⟩
  have : decide (indexHas l marks ≥ 0) = anyHas l marks := indexOf_ge _ l
  rwa [this]

theorem within_eq (lo hi : Int) (l : List Int) : (!anyOut lo hi l) = within lo hi l := by
  unfold anyOut within
  rw [List.not_any_eq_all_not]
  congr 1
  funext y
  simp only [outOf, ← decide_not, decide_eq_decide]
  omega

theorem k56 (hG : Good Try.prog (envOf [(80, mkC [v80a, v80b])])) : v56.Kept Try.prog 56 := by
  rintro ⟨lo, hi, l, ⟨⟩⟩ hpre k hk
  change List Int at l
  change Int at lo hi
  refine aspec hmix hG Try.func56 tx56 (Eq.mpr (eq56 lo hi l k) ?_)
  replace hk : k (.bool (within lo hi l)) [] := hk
  unfold vc56
  refine ⟨hpre, ?_⟩
  rwa [within_eq]

/-! ### bits -/
theorem toNat_eq {n : Int} (h : 0 ≤ n) : n = ((n.toNat : Nat) : Int) := by omega

theorem listed_succ (b i : Nat) : listed b (i + 1) = listed b i ++ (if b.testBit i then [(i : Int)] else []) := by
  unfold listed
  rw [List.range_succ, List.filter_append, List.map_append]
  by_cases h : b.testBit i = true <;> simp [h]

theorem listed_len (b n : Nat) : (listed b n).length ≤ n := by
  unfold listed
  rw [List.length_map]
  exact Nat.le_trans (List.length_filter_le _ _) (by simp)

theorem k41 (hG : Good Try.prog (envOf [])) : v41.Kept Try.prog 41 := by
  rintro ⟨bits, below, ⟨⟩⟩ hpre k hk
  change Int at bits below
  refine aspec hmix hG Try.func41 tx41 (Eq.mpr (eq41 bits below k) ?_)
  obtain ⟨⟨h1, h2⟩, h3, h4⟩ := hpre
  have h1 : 0 ≤ bits := h1
  have h2 : bits < 4611686018427387904 := h2
  have h3 : 0 ≤ below := h3
  have h4 : below ≤ 40 := h4
  replace hk : k (.reg 0 false) [.sl (.int .i64) (listed bits.toNat below.toNat)] := hk
  obtain ⟨b, rfl⟩ := Int.eq_ofNat_of_zero_le h1
  obtain ⟨n, rfl⟩ := Int.eq_ofNat_of_zero_le h3
  simp only [Int.toNat_natCast] at hk
  unfold vc41
  refine Loop.upto (fun i => ((b : Int), (n : Int), (i : Int), listed b i, ())) (fun i => True) n rfl trivial ?_ ?_
  · intro i K hi _ hK
    dsimp only
    rw [br_decide]
    have hlen := listed_len b i
    have hs := listed_succ b i
    refine ⟨fun _ => ⟨by omega, ?_⟩, fun h => absurd hi (by omega)⟩
    rw [bit_test b i (by omega)]
    have hK := hK trivial
    refine br_intro (fun h => ⟨by simp [big]; omega, fits64 (by omega) (by omega), ?_⟩) (fun h => ⟨fits64 (by omega) (by omega), ?_⟩)
    · rw [hs, if_pos h] at hK
      exact hK
    · rw [hs, if_neg (by simp [h]), List.append_nil] at hK
      exact hK
  · intro K _
    dsimp only
    rw [br_decide]
    exact ⟨fun h => absurd h (by omega), fun _ => hk⟩

theorem k49 (hG : Good Try.prog (envOf [(41, mkC [v41])])) : v49.Kept Try.prog 49 := by
  rintro ⟨n, ⟨⟩⟩ hpre k hk
  change Int at n
  refine aspec hmix hG Try.func49 tx49 (Eq.mpr (eq49 n k) ?_)
  obtain ⟨h1, h2⟩ := hpre
  have h1 : 0 ≤ n := h1
  have h2 : n ≤ 40 := h2
  obtain ⟨n, rfl⟩ := Int.eq_ofNat_of_zero_le h1
  have e : shlA .i64 1 (n : Int) = ((2 ^ n : Nat) : Int) := one_shl n (by omega)
  have hp : 2 ^ n ≤ 2 ^ 40 := Nat.pow_le_pow_right (by omega) (by omega)
  have hp1 : 1 ≤ 2 ^ n := Nat.one_le_two_pow
  have h40 : (2 : Nat) ^ 40 = 1099511627776 := by decide
  have e2 : ((2 ^ n : Nat) : Int) - 1 = ((2 ^ n - 1 : Nat) : Int) := by omega
  replace hk : k (.reg 0 false) [.sl (.int .i64) (listed (2 ^ n - 1) n)] := hk
  unfold vc49
  rw [e, e2]
  refine ⟨h1, fits64 (by omega) (by omega), ⟨⟨?_, ?_⟩, h1, h2⟩, ?_⟩
  · show (0 : Int) ≤ ((2 ^ n - 1 : Nat) : Int); omega
  · show ((2 ^ n - 1 : Nat) : Int) < 4611686018427387904; omega
  · simp only [Int.toNat_natCast]
    exact hk

theorem within_take (l : List Int) : within (-1) 4 l = true ↔ ∀ y ∈ l, outOf (-1) 4 y = false := by
  simp only [within, List.all_eq_true, decide_eq_true_eq, outOf, decide_eq_false_iff_not]
  constructor <;> (intro h y hy; have := h y hy; omega)

theorem k61 (hG : Good Try.prog (envOf [(23, mkC [v23])])) : v61.Kept Try.prog 61 := by
  rintro ⟨m, pots, seen, ⟨⟩⟩ hpre k hk
  change List (List Int) at pots
  change List Int at seen
  change Int at m
  refine aspec hmix hG Try.func61 tx61 (Eq.mpr (eq61 m pots seen k) ?_)
  replace hk : k (rI (seenErr m pots seen)) [] := hk
  obtain ⟨hp, hl⟩ := hpre
  have hl0 : seen.length ≤ big60 := hl
  simp only [big60] at hl0
  unfold vc61
  rw [br_bne]
  refine ⟨hp, fun h => ⟨hp, ?_⟩, fun h => ?_⟩
  · have e : seenErr m pots seen = checkShelf m pots := by simp [seenErr, h]
    rwa [e] at hk
  rw [br_bne]
  refine ⟨fun h2 => ?_, fun h2 => ?_⟩
  · have e : seenErr m pots seen = 15 := by simp [seenErr, h, h2]
    rwa [e] at hk
  have bad : ∀ y ∈ seen, outOf (-1) 4 y = true → k (rI 3) [] := by
    intro y hy ho
    have e : seenErr m pots seen = 3 := by
      have : within (-1) 4 seen = false := by
        rw [← Bool.not_eq_true, within_take]
        intro hh
        rw [hh y hy] at ho
        cases ho
      simp [seenErr, h, h2, this]
    rwa [e] at hk
  refine Loop.upto (fun i => (seen, (i : Int), ())) (fun i => ∀ y ∈ seen.take i, outOf (-1) 4 y = false) seen.length rfl (by simp) ?_ ?_
  · intro i K hi hp hK
    dsimp only
    rw [br_decide]
    refine ⟨fun _ => ⟨⟨by omega, by omega⟩, ?_⟩, fun h => absurd hi (by omega)⟩
    simp only [Int.toNat_natCast]
    rw [br_false]
    refine ⟨fun h3 => ⟨⟨by omega, by omega⟩, ?_⟩, fun h3 => bad _ (List.getElem_mem hi) (by simp [outOf]; omega)⟩
    rw [br_decide]
    exact ⟨fun h4 => bad _ (List.getElem_mem hi) (by simp [outOf]; omega), fun h4 => ⟨fits64 (by omega) (by omega), hK (take_all_succ _ _ _ hi hp (by simp [outOf]; omega))⟩⟩
  · intro K hp
    dsimp only
    rw [br_decide]
    refine ⟨fun h => absurd h (by omega), fun _ => ?_⟩
    rw [List.take_length] at hp
    have e : seenErr m pots seen = 0 := by
      have : within (-1) 4 seen = true := (within_take _).2 hp
      simp [seenErr, h, h2, this]
    rwa [e] at hk

theorem bitsOf_succ (n : Nat) (p : Nat → Bool) : bitsOf (n + 1) p = if p n then bitsOf n p ||| 2 ^ n else bitsOf n p := by
  unfold bitsOf
  rw [List.range_succ, List.foldl_append]; rfl
theorem bitsOf_lt (n : Nat) (p : Nat → Bool) : bitsOf n p < 2 ^ n := by
  induction n with
  | zero => simp [bitsOf]
  | succ n ih =>
    have h2 : 2 ^ n < 2 ^ (n + 1) := Nat.pow_lt_pow_right (by omega) (by omega)
    rw [bitsOf_succ]
    split
    · exact Nat.or_lt_two_pow (by omega) h2
    · omega
theorem bitsOf_test (n : Nat) (p : Nat → Bool) (i : Nat) : (bitsOf n p).testBit i = (decide (i < n) && p i) := by
  induction n with
  | zero => simp [bitsOf]
  | succ n ih =>
    rw [bitsOf_succ]
    by_cases hi : i = n
    · subst hi
      have h0 : (bitsOf i p).testBit i = false := by rw [ih]; simp
      split
      · rename_i h; simp [Nat.testBit_or, h0, h]
      · rename_i h; simp [h0, h]
    · have h3 : decide (i < n + 1) = decide (i < n) := by simp only [decide_eq_decide]; omega
      split
      · rw [Nat.testBit_or, ih, Nat.testBit_two_pow, h3]
        have : decide (n = i) = false := by simp; omega
        simp [this]
      · rw [ih, h3]

theorem or_bit (b i : Nat) (hb : b < 2 ^ i) (hi : i ≤ 40) : bitsA .or .i64 (b : Int) (shlA .i64 1 (i : Int)) = ((b ||| 2 ^ i : Nat) : Int) := by
  rw [one_shl i (by omega)]
  have := pow_lt62 i (by omega)
  exact lor_nat _ _ (by omega) this

theorem k90 (hG : Good Try.prog (envOf [])) : v90.Kept Try.prog 90 := by
  rintro ⟨m, pots, bits, mark, value, ⟨⟩⟩ hpre k hk
  change List (List Int) at pots
  change Int at m bits mark value
  refine aspec hmix hG Try.func90 tx90 (Eq.mpr (eq90 m pots bits mark value k) ?_)
  obtain ⟨hf, ⟨h1, h2⟩, h3, h4⟩ := hpre
  have hf : checkShelf m pots = 0 := hf
  have h1 : 0 ≤ bits := h1
  have h2 : bits < 4611686018427387904 := h2
  have h3 : 0 ≤ mark := h3
  have h4 : mark < m := h4
  obtain ⟨f1, f2, f3, f4⟩ := fine_spec hf
  replace hk : k (rI (partOf pots bits.toNat mark.toNat value)) [] := hk
  obtain ⟨b, rfl⟩ := Int.eq_ofNat_of_zero_le h1
  obtain ⟨j, rfl⟩ := Int.eq_ofNat_of_zero_le h3
  simp only [Int.toNat_natCast] at hk
  let p : Nat → Bool := fun i => b.testBit i && decide (mk pots i j = value)
  unfold vc90
  refine Loop.upto (fun i => ((b : Int), (j : Int), value, ((bitsOf i p : Nat) : Int), (i : Int), m, pots, ())) (fun i => True) pots.length rfl trivial ?_ ?_
  · intro i K hi _ hK
    dsimp only
    have hK := hK trivial
    rw [bitsOf_succ] at hK
    rw [br_decide]
    refine ⟨fun _ => ⟨by omega, ?_⟩, fun h => absurd hi (by omega)⟩
    rw [bit_test b i (by omega), br_bt]
    have hlen := f3 _ (List.getElem_mem hi)
    refine ⟨fun h => ⟨⟨by omega, by omega⟩, ?_⟩, fun h => ⟨fits64 (by omega) (by omega), ?_⟩⟩
    · simp only [Int.toNat_natCast]
      refine ⟨⟨by omega, by omega⟩, ?_⟩
      have e : mk pots i j = pots[i][j] := mk_eq hi (by omega)
      rw [← e, br_beq]
      refine ⟨fun h5 => ⟨by omega, fits64 (by omega) (by omega), ?_⟩, fun h5 => ⟨fits64 (by omega) (by omega), ?_⟩⟩
      · rw [or_bit _ _ (bitsOf_lt i p) (by omega)]
        have hp : p i = true := by simp [p, h, h5]
        rw [if_pos hp] at hK
        exact hK
      · have hp : ¬ p i = true := by simp [p, h5]
        rw [if_neg hp] at hK
        exact hK
    · have hp : ¬ p i = true := by simp [p, h]
      rw [if_neg hp] at hK
      exact hK
  · intro K _
    dsimp only
    rw [br_decide]
    exact ⟨fun h => absurd h (by omega), fun _ => hk⟩
end Go.Abs.King
end

section
/- Conditions and their equations, printed by a program: second part. -/
open Go.Proofs
set_option maxRecDepth 100000
set_option linter.unusedVariables false
namespace Go.Abs.King
def vc60 (bits : Int) (k : AVal → List Cont → Prop) : Prop :=
  Go.Abs.Loop (σ := (Int × (Int × ((List Int) × Unit)))) (fun K2 x2 =>
    br ((decide (x2.1 < (8 : Int))))
     (((0 : Int) ≤ x2.1) ∧
     br (((Go.Abs.bitsA Go.BinOp.and Go.IntKind.i64 (Go.Abs.shrA Go.IntKind.i64 x2.2.1 x2.1) (1 : Int)) == (1 : Int)))
      ((((List.length x2.2.2.1) + (List.length (x2.1 :: []))) ≤ Go.Abs.big) ∧
      (Go.Abs.fitsK Go.IntKind.i64 (x2.1 + (1 : Int))) ∧
      (K2 ((x2.1 + (1 : Int)), (x2.2.1, ((x2.2.2.1 ++ (x2.1 :: [])), ())))))
      ((Go.Abs.fitsK Go.IntKind.i64 (x2.1 + (1 : Int))) ∧
      (K2 ((x2.1 + (1 : Int)), (x2.2.1, (x2.2.2.1, ()))))))
     ((k (Go.Abs.AVal.reg (0 : Nat) Bool.false) ((Go.Abs.Cont.sl (Go.Abs.Ty.int Go.IntKind.i64) x2.2.2.1) :: [])))) (((0 : Int), (bits, ([], ()))))
theorem eq60 (bits : Int) (k : AVal → List Cont → Prop) : awpF (envOf []) Try.prog kt 60 false Try.f60 (v60.S.enc Unit (bits, ())).1 [] k = vc60 bits k := by kernel_rfl
theorem tx60 : (Try.f60.body.map Code.textsOk).getD true = true := by kernel_rfl

def vc84 (m : Int) (pots : List (List Int)) (q : SemP) (bits mark value : Int) (k : AVal → List Cont → Prop) : Prop :=
  (Go.Abs.King.v60.p (bits, ())) ∧
  Go.Abs.Loop (σ := (Int × ((List (List Int)) × (Go.Abs.SemP × (Int × (Int × (Int × (Int × (Int × (Int × ((List Int) × Unit))))))))))) (fun K7 x7 =>
    br ((decide (x7.2.2.2.2.2.2.1 < x7.2.2.2.2.2.1)))
     ((((0 : Int) ≤ x7.2.2.2.2.2.2.1) ∧ ((Int.toNat x7.2.2.2.2.2.2.1) < (List.length x7.2.2.2.2.2.2.2.2.2.1))) ∧
     ∃ h9 : ((Int.toNat x7.2.2.2.2.2.2.1) < (List.length x7.2.2.2.2.2.2.2.2.2.1)),
     ∃ h10 : (((0 : Int) ≤ (x7.2.2.2.2.2.2.2.2.2.1[(Int.toNat x7.2.2.2.2.2.2.1)]'h9)) ∧ ((Int.toNat (x7.2.2.2.2.2.2.2.2.2.1[(Int.toNat x7.2.2.2.2.2.2.1)]'h9)) < (List.length x7.2.1))),
     ∃ h11 : (((0 : Int) ≤ x7.2.2.2.1) ∧ ((Int.toNat x7.2.2.2.1) < (List.length (x7.2.1[(Int.toNat (x7.2.2.2.2.2.2.2.2.2.1[(Int.toNat x7.2.2.2.2.2.2.1)]'h9))]'h10.2)))),
     br ((((x7.2.1[(Int.toNat (x7.2.2.2.2.2.2.2.2.2.1[(Int.toNat x7.2.2.2.2.2.2.1)]'h9))]'h10.2)[(Int.toNat x7.2.2.2.1)]'h11.2) == x7.2.2.2.2.1))
      (((0 : Int) ≤ (x7.2.2.2.2.2.2.2.2.2.1[(Int.toNat x7.2.2.2.2.2.2.1)]'h9)) ∧
      (Go.Abs.fitsK Go.IntKind.i64 (x7.2.2.2.2.2.2.1 + (1 : Int))) ∧
      (K7 (x7.1, (x7.2.1, (x7.2.2.1, (x7.2.2.2.1, (x7.2.2.2.2.1, (x7.2.2.2.2.2.1, ((x7.2.2.2.2.2.2.1 + (1 : Int)), (x7.2.2.2.2.2.2.2.1, ((Go.Abs.bitsA Go.BinOp.or Go.IntKind.i64 x7.2.2.2.2.2.2.2.2.1 (Go.Abs.shlA Go.IntKind.i64 (1 : Int) (x7.2.2.2.2.2.2.2.2.2.1[(Int.toNat x7.2.2.2.2.2.2.1)]'h9))), (x7.2.2.2.2.2.2.2.2.2.1, ()))))))))))))
      ((Go.Abs.fitsK Go.IntKind.i64 (x7.2.2.2.2.2.2.1 + (1 : Int))) ∧
      (K7 (x7.1, (x7.2.1, (x7.2.2.1, (x7.2.2.2.1, (x7.2.2.2.2.1, (x7.2.2.2.2.2.1, ((x7.2.2.2.2.2.2.1 + (1 : Int)), (x7.2.2.2.2.2.2.2.1, (x7.2.2.2.2.2.2.2.2.1, (x7.2.2.2.2.2.2.2.2.2.1, ())))))))))))))
     ((k (Go.Abs.AVal.agg ((Go.Abs.AVal.int Go.IntKind.i64 x7.2.2.2.2.2.2.2.2.1) :: [])) []))) ((m, (pots, (q, (mark, (value, ((((List.length (Go.Abs.King.listed (Int.toNat bits) (8 : Nat))) : Nat) : Int), ((0 : Int), ((0 : Int), ((0 : Int), ((Go.Abs.King.listed (Int.toNat bits) (8 : Nat)), ())))))))))))
theorem eq84 (m : Int) (pots : List (List Int)) (q : SemP) (bits mark value : Int) (k : AVal → List Cont → Prop) : awpF (envOf [(60, mkC [v60])]) Try.prog kt 84 false Try.f84 (v84.S.enc Unit (m, pots, q, bits, mark, value, ())).1 [] k = vc84 m pots q bits mark value k := by kernel_rfl
theorem tx84 : (Try.f84.body.map Code.textsOk).getD true = true := by kernel_rfl

def vc76 (m : Int) (pots : List (List Int)) (q : SemP) (k : AVal → List Cont → Prop) : Prop :=
  ((0 : Int) ≤ (((List.length pots) : Nat) : Int)) ∧
  (Go.Abs.fitsK Go.IntKind.i64 ((Go.Abs.shlA Go.IntKind.i64 (1 : Int) (((List.length pots) : Nat) : Int)) - (1 : Int))) ∧
  (k (Go.Abs.AVal.agg ((Go.Abs.AVal.int Go.IntKind.i64 ((Go.Abs.shlA Go.IntKind.i64 (1 : Int) (((List.length pots) : Nat) : Int)) - (1 : Int))) :: [])) [])
theorem eq76 (m : Int) (pots : List (List Int)) (q : SemP) (k : AVal → List Cont → Prop) : awpF (envOf []) Try.prog kt 76 false Try.f76 (v76.S.enc Unit (m, pots, q, ())).1 [] k = vc76 m pots q k := by kernel_rfl
theorem tx76 : (Try.f76.body.map Code.textsOk).getD true = true := by kernel_rfl

def vc68 (m : Int) (pots : List (List Int)) (q : SemP) (i j : Int) (k : AVal → List Cont → Prop) : Prop :=
  Go.Abs.Loop (σ := (Int × ((List (List Int)) × (Go.Abs.SemP × (Int × (Int × (Int × (Int × ((List Int) × Unit))))))))) (fun K6 x6 =>
    br ((decide (x6.2.2.2.2.2.2.1 < x6.2.2.2.2.2.1)))
     (∃ h8 : (((0 : Int) ≤ x6.2.2.2.1) ∧ ((Int.toNat x6.2.2.2.1) < (List.length x6.2.1))),
     ∃ h9 : (((0 : Int) ≤ x6.2.2.2.2.2.2.1) ∧ ((Int.toNat x6.2.2.2.2.2.2.1) < (List.length (x6.2.1[(Int.toNat x6.2.2.2.1)]'h8.2)))),
     ∃ h10 : (((0 : Int) ≤ x6.2.2.2.2.1) ∧ ((Int.toNat x6.2.2.2.2.1) < (List.length x6.2.1))),
     ∃ h11 : (((0 : Int) ≤ x6.2.2.2.2.2.2.1) ∧ ((Int.toNat x6.2.2.2.2.2.2.1) < (List.length (x6.2.1[(Int.toNat x6.2.2.2.2.1)]'h10.2)))),
     br ((((x6.2.1[(Int.toNat x6.2.2.2.1)]'h8.2)[(Int.toNat x6.2.2.2.2.2.2.1)]'h9.2) != ((x6.2.1[(Int.toNat x6.2.2.2.2.1)]'h10.2)[(Int.toNat x6.2.2.2.2.2.2.1)]'h11.2)))
      ((((List.length x6.2.2.2.2.2.2.2.1) + (List.length (x6.2.2.2.2.2.2.1 :: []))) ≤ Go.Abs.big) ∧
      (Go.Abs.fitsK Go.IntKind.i64 (x6.2.2.2.2.2.2.1 + (1 : Int))) ∧
      (K6 (x6.1, (x6.2.1, (x6.2.2.1, (x6.2.2.2.1, (x6.2.2.2.2.1, (x6.2.2.2.2.2.1, ((x6.2.2.2.2.2.2.1 + (1 : Int)), ((x6.2.2.2.2.2.2.2.1 ++ (x6.2.2.2.2.2.2.1 :: [])), ()))))))))))
      ((Go.Abs.fitsK Go.IntKind.i64 (x6.2.2.2.2.2.2.1 + (1 : Int))) ∧
      (K6 (x6.1, (x6.2.1, (x6.2.2.1, (x6.2.2.2.1, (x6.2.2.2.2.1, (x6.2.2.2.2.2.1, ((x6.2.2.2.2.2.2.1 + (1 : Int)), (x6.2.2.2.2.2.2.2.1, ())))))))))))
     ((k (Go.Abs.AVal.reg (0 : Nat) Bool.false) ((Go.Abs.Cont.sl (Go.Abs.Ty.int Go.IntKind.i64) x6.2.2.2.2.2.2.2.1) :: [])))) ((m, (pots, (q, (i, (j, (m, ((0 : Int), ([], ())))))))))
theorem eq68 (m : Int) (pots : List (List Int)) (q : SemP) (i j : Int) (k : AVal → List Cont → Prop) : awpF (envOf []) Try.prog kt 68 false Try.f68 (v68.S.enc Unit (m, pots, q, i, j, ())).1 [] k = vc68 m pots q i j k := by kernel_rfl
theorem tx68 : (Try.f68.body.map Code.textsOk).getD true = true := by kernel_rfl

def vc57 (m : Int) (pots : List (List Int)) (q : SemP) (marks : List Int) (k : AVal → List Cont → Prop) : Prop :=
  Go.Abs.Loop (σ := (Int × ((List (List Int)) × (Go.Abs.SemP × (Int × ((List (List Int)) × (Go.Abs.SemP × (Int × (Int × ((List Int) × Unit)))))))))) (fun K5 x5 =>
    br ((decide (x5.2.2.2.2.2.2.2.1 < x5.2.2.2.2.2.2.1)))
     ((Go.Abs.fitsK Go.IntKind.i64 (x5.2.2.2.2.2.2.2.1 + (1 : Int))) ∧
     Go.Abs.Loop (σ := (Int × ((List (List Int)) × (Go.Abs.SemP × (Int × ((List (List Int)) × (Go.Abs.SemP × (Int × (Int × (Int × (Int × ((List Int) × Unit)))))))))))) (fun K7 x7 =>
       br ((decide (x7.2.2.2.2.2.2.2.1 < (((List.length x7.2.1) : Nat) : Int))))
        ((Go.Abs.King.v68.p (x7.2.2.2.1, (x7.2.2.2.2.1, (x7.2.2.2.2.2.1, (x7.2.2.2.2.2.2.1, (x7.2.2.2.2.2.2.2.1, ())))))) ∧
        (Go.Abs.King.v80b.p ((Go.Abs.King.apart x7.2.2.2.2.1 (Int.toNat x7.2.2.2.1) (Int.toNat x7.2.2.2.2.2.2.1) (Int.toNat x7.2.2.2.2.2.2.2.1)), (x7.2.2.2.2.2.2.2.2.2.2.1, ()))) ∧
        br ((Bool.not (Go.Abs.King.anyHas (Go.Abs.King.apart x7.2.2.2.2.1 (Int.toNat x7.2.2.2.1) (Int.toNat x7.2.2.2.2.2.2.1) (Int.toNat x7.2.2.2.2.2.2.2.1)) x7.2.2.2.2.2.2.2.2.2.2.1)))
         ((k (Go.Abs.AVal.tup ((Go.Abs.AVal.int Go.IntKind.i64 x7.2.2.2.2.2.2.1) :: ((Go.Abs.AVal.int Go.IntKind.i64 x7.2.2.2.2.2.2.2.1) :: ((Go.Abs.AVal.bool Bool.true) :: [])))) []))
         ((Go.Abs.fitsK Go.IntKind.i64 (x7.2.2.2.2.2.2.2.1 + (1 : Int))) ∧
         (K7 (x7.1, (x7.2.1, (x7.2.2.1, (x7.2.2.2.1, (x7.2.2.2.2.1, (x7.2.2.2.2.2.1, (x7.2.2.2.2.2.2.1, ((x7.2.2.2.2.2.2.2.1 + (1 : Int)), (x7.2.2.2.2.2.2.2.2.1, (x7.2.2.2.2.2.2.2.2.2.1, (x7.2.2.2.2.2.2.2.2.2.2.1, ()))))))))))))))
        ((Go.Abs.fitsK Go.IntKind.i64 (x7.2.2.2.2.2.2.2.2.2.1 + (1 : Int))) ∧
        (K5 (x7.1, (x7.2.1, (x7.2.2.1, (x7.2.2.2.1, (x7.2.2.2.2.1, (x7.2.2.2.2.2.1, (x7.2.2.2.2.2.2.2.2.1, ((x7.2.2.2.2.2.2.2.2.2.1 + (1 : Int)), (x7.2.2.2.2.2.2.2.2.2.2.1, ())))))))))))) ((x5.1, (x5.2.1, (x5.2.2.1, (x5.2.2.2.1, (x5.2.2.2.2.1, (x5.2.2.2.2.2.1, (x5.2.2.2.2.2.2.2.1, ((x5.2.2.2.2.2.2.2.1 + (1 : Int)), (x5.2.2.2.2.2.2.1, (x5.2.2.2.2.2.2.2.1, (x5.2.2.2.2.2.2.2.2.1, ())))))))))))))
     ((k (Go.Abs.AVal.tup ((Go.Abs.AVal.int Go.IntKind.i64 (0 : Int)) :: ((Go.Abs.AVal.int Go.IntKind.i64 (0 : Int)) :: ((Go.Abs.AVal.bool Bool.false) :: [])))) []))) ((m, (pots, (q, (m, (pots, (q, ((((List.length pots) : Nat) : Int), ((0 : Int), (marks, ()))))))))))
theorem eq57 (m : Int) (pots : List (List Int)) (q : SemP) (marks : List Int) (k : AVal → List Cont → Prop) : awpF (envOf [(68, mkC [v68]), (80, mkC [v80a, v80b])]) Try.prog kt 57 false Try.f57 (v57.S.enc Unit (m, pots, q, marks, ())).1 [] k = vc57 m pots q marks k := by kernel_rfl
theorem tx57 : (Try.f57.body.map Code.textsOk).getD true = true := by kernel_rfl

def vc79 (m : Int) (pots : List (List Int)) (k : AVal → List Cont → Prop) : Prop :=
  ∃ h3 : (Int → Int),
  (k (Go.Abs.AVal.iptr ((Go.Abs.AVal.int Go.IntKind.i64 m) :: ((Go.Abs.AVal.imm (Go.Abs.Ty.slice (Go.Abs.Ty.int Go.IntKind.i64)) pots Bool.false) :: ((Go.Abs.AVal.sem (Go.Abs.memoP h3)) :: [])))) [])
theorem eq79 (m : Int) (pots : List (List Int)) (k : AVal → List Cont → Prop) : awpF (envOf []) Try.prog kt 79 false Try.f79 (v79.S.enc Unit (m, pots, ())).1 [] k = vc79 m pots k := by kernel_rfl
theorem tx79 : (Try.f79.body.map Code.textsOk).getD true = true := by kernel_rfl

def vc64 (p : List Int) (m : Int) (pots : List (List Int)) (k : AVal → List Cont → Prop) : Prop :=
  (k (Go.Abs.AVal.bool ((((List.length p) : Nat) : Int) != m)) [])
theorem eq64 (p : List Int) (m : Int) (pots : List (List Int)) (k : AVal → List Cont → Prop) : awpF (envOf []) Try.prog kt 64 false Try.f64 (v64.S.enc Unit (p, m, pots, ())).1 [] k = vc64 p m pots k := by kernel_rfl
theorem tx64 : (Try.f64.body.map Code.textsOk).getD true = true := by kernel_rfl

def vc65 (p : List Int) (k : AVal → List Cont → Prop) : Prop :=
  (Go.Abs.King.v56.p ((0 : Int), ((4 : Int), (p, ())))) ∧
  (k (Go.Abs.AVal.bool (Bool.not (Go.Abs.King.within (0 : Int) (4 : Int) p))) [])
theorem eq65 (p : List Int) (k : AVal → List Cont → Prop) : awpF (envOf [(56, mkC [v56])]) Try.prog kt 65 false Try.f65 (v65.S.enc Unit (p, ())).1 [] k = vc65 p k := by kernel_rfl
theorem tx65 : (Try.f65.body.map Code.textsOk).getD true = true := by kernel_rfl

def vc85a (l : List (List Int)) (m : Int) (pots : List (List Int)) (k : AVal → List Cont → Prop) : Prop :=
  Go.Abs.Loop (σ := ((List (List Int)) × (Int × ((List (List Int)) × (Int × (Int × Unit)))))) (fun K4 x4 =>
    br ((decide (x4.2.2.2.2.1 < x4.2.2.2.1)))
     (∃ h6 : (((0 : Int) ≤ x4.2.2.2.2.1) ∧ ((Int.toNat x4.2.2.2.2.1) < (List.length x4.1))),
     (Go.Abs.King.v64.p ((x4.1[(Int.toNat x4.2.2.2.2.1)]'h6.2), (x4.2.1, (x4.2.2.1, ())))) ∧
     br ((Go.Abs.King.lenNot x4.2.1 (x4.1[(Int.toNat x4.2.2.2.2.1)]'h6.2)))
      ((k (Go.Abs.AVal.int Go.IntKind.i64 x4.2.2.2.2.1) []))
      ((Go.Abs.fitsK Go.IntKind.i64 (x4.2.2.2.2.1 + (1 : Int))) ∧
      (K4 (x4.1, (x4.2.1, (x4.2.2.1, (x4.2.2.2.1, ((x4.2.2.2.2.1 + (1 : Int)), ()))))))))
     ((k (Go.Abs.AVal.int Go.IntKind.i64 (Neg.neg (1 : Int))) []))) ((l, (m, (pots, ((((List.length l) : Nat) : Int), ((0 : Int), ()))))))
theorem eq85a (l : List (List Int)) (m : Int) (pots : List (List Int)) (k : AVal → List Cont → Prop) : awpF (envOf [(64, mkC [v64]), (65, mkC [v65])]) Try.prog kt 85 false Try.f85 (v85a.S.enc Unit (l, m, pots, ())).1 [] k = vc85a l m pots k := by kernel_rfl
theorem tx85 : (Try.f85.body.map Code.textsOk).getD true = true := by kernel_rfl

def vc85b (l : List (List Int)) (k : AVal → List Cont → Prop) : Prop :=
  Go.Abs.Loop (σ := ((List (List Int)) × (Int × (Int × Unit)))) (fun K2 x2 =>
    br ((decide (x2.2.2.1 < x2.2.1)))
     (∃ h4 : (((0 : Int) ≤ x2.2.2.1) ∧ ((Int.toNat x2.2.2.1) < (List.length x2.1))),
     (Go.Abs.King.v65.p ((x2.1[(Int.toNat x2.2.2.1)]'h4.2), ())) ∧
     br ((Go.Abs.King.outMarks (x2.1[(Int.toNat x2.2.2.1)]'h4.2)))
      ((k (Go.Abs.AVal.int Go.IntKind.i64 x2.2.2.1) []))
      ((Go.Abs.fitsK Go.IntKind.i64 (x2.2.2.1 + (1 : Int))) ∧
      (K2 (x2.1, (x2.2.1, ((x2.2.2.1 + (1 : Int)), ()))))))
     ((k (Go.Abs.AVal.int Go.IntKind.i64 (Neg.neg (1 : Int))) []))) ((l, ((((List.length l) : Nat) : Int), ((0 : Int), ()))))
theorem eq85b (l : List (List Int)) (k : AVal → List Cont → Prop) : awpF (envOf [(64, mkC [v64]), (65, mkC [v65])]) Try.prog kt 85 false Try.f85 (v85b.S.enc Unit (l, ())).1 [] k = vc85b l k := by kernel_rfl

def vc63a (l : List (List Int)) (m : Int) (pots : List (List Int)) (k : AVal → List Cont → Prop) : Prop :=
  (Go.Abs.King.v85a.p (l, (m, (pots, ())))) ∧
  (k (Go.Abs.AVal.bool (decide ((Go.Abs.King.indexLen m l) ≥ (0 : Int)))) [])
theorem eq63a (l : List (List Int)) (m : Int) (pots : List (List Int)) (k : AVal → List Cont → Prop) : awpF (envOf [(85, mkC [v85a, v85b])]) Try.prog kt 63 false Try.f63 (v63a.S.enc Unit (l, m, pots, ())).1 [] k = vc63a l m pots k := by kernel_rfl
theorem tx63 : (Try.f63.body.map Code.textsOk).getD true = true := by kernel_rfl

def vc63b (l : List (List Int)) (k : AVal → List Cont → Prop) : Prop :=
  (Go.Abs.King.v85b.p (l, ())) ∧
  (k (Go.Abs.AVal.bool (decide ((Go.Abs.King.indexMarks l) ≥ (0 : Int)))) [])
theorem eq63b (l : List (List Int)) (k : AVal → List Cont → Prop) : awpF (envOf [(85, mkC [v85a, v85b])]) Try.prog kt 63 false Try.f63 (v63b.S.enc Unit (l, ())).1 [] k = vc63b l k := by kernel_rfl

def vc22 (m : Int) (pots : List (List Int)) (k : AVal → List Cont → Prop) : Prop :=
  (Go.Abs.King.v56.p ((1 : Int), ((6 : Int), ((m :: []), ())))) ∧
  br (((Bool.not (Go.Abs.King.within (1 : Int) (6 : Int) (m :: []))) == Bool.false))
   ((Go.Abs.King.v56.p ((1 : Int), ((8 : Int), (((((List.length pots) : Nat) : Int) :: []), ())))) ∧
   br ((Bool.not (Go.Abs.King.within (1 : Int) (8 : Int) ((((List.length pots) : Nat) : Int) :: []))))
    ((k (Go.Abs.AVal.int Go.IntKind.i64 (6 : Int)) []))
    ((Go.Abs.King.v63a.p (pots, (m, (pots, ())))) ∧
    br ((Go.Abs.King.anyLen m pots))
     ((k (Go.Abs.AVal.int Go.IntKind.i64 (15 : Int)) []))
     ((Go.Abs.King.v63b.p (pots, ())) ∧
     br ((Go.Abs.King.anyMarks pots))
      ((k (Go.Abs.AVal.int Go.IntKind.i64 (3 : Int)) []))
      ((k (Go.Abs.AVal.int Go.IntKind.i64 (0 : Int)) [])))))
   ((k (Go.Abs.AVal.int Go.IntKind.i64 (6 : Int)) []))
theorem eq22 (m : Int) (pots : List (List Int)) (k : AVal → List Cont → Prop) : awpF (envOf [(56, mkC [v56]), (63, mkC [v63a, v63b])]) Try.prog kt 22 false Try.f22 (v22.S.enc Unit (m, pots, ())).1 [] k = vc22 m pots k := by kernel_rfl
theorem tx22 : (Try.f22.body.map Code.textsOk).getD true = true := by kernel_rfl

def vc55 (m : Int) (pots : List (List Int)) (k : AVal → List Cont → Prop) : Prop :=
  (Go.Abs.King.v22.p (m, (pots, ()))) ∧
  br (((Go.Abs.King.checkShelf m pots) != (0 : Int)))
   ((k (Go.Abs.AVal.tup (Go.Abs.AVal.unk :: ((Go.Abs.AVal.int Go.IntKind.i64 (Go.Abs.King.checkShelf m pots)) :: []))) []))
   ((Go.Abs.King.v79.p (m, (pots, ()))) ∧
   (k (Go.Abs.AVal.tup ((Go.Abs.AVal.iptr ((Go.Abs.AVal.int Go.IntKind.i64 m) :: ((Go.Abs.AVal.imm (Go.Abs.Ty.slice (Go.Abs.Ty.int Go.IntKind.i64)) pots Bool.false) :: ((Go.Abs.AVal.sem (Go.Abs.memoP (Go.Abs.King.looksI m pots))) :: [])))) :: ((Go.Abs.AVal.int Go.IntKind.i64 (0 : Int)) :: []))) []))
theorem eq55 (m : Int) (pots : List (List Int)) (k : AVal → List Cont → Prop) : awpF (envOf [(22, mkC [v22]), (79, mkC [v79])]) Try.prog kt 55 false Try.f55 (v55.S.enc Unit (m, pots, ())).1 [] k = vc55 m pots k := by kernel_rfl
theorem tx55 : (Try.f55.body.map Code.textsOk).getD true = true := by kernel_rfl

def vc18 (m : Int) (pots : List (List Int)) (marks : List Int) (k : AVal → List Cont → Prop) : Prop :=
  (Go.Abs.King.v55.p (m, (pots, ()))) ∧
  br ((Go.Abs.King.csIs m pots (6 : Int)))
   ((k (Go.Abs.AVal.tup ((Go.Abs.AVal.int Go.IntKind.i64 (0 : Int)) :: ((Go.Abs.AVal.int Go.IntKind.i64 (0 : Int)) :: ((Go.Abs.AVal.int Go.IntKind.i64 (6 : Int)) :: [])))) []))
   (br ((Go.Abs.King.csIs m pots (15 : Int)))
    ((k (Go.Abs.AVal.tup ((Go.Abs.AVal.int Go.IntKind.i64 (0 : Int)) :: ((Go.Abs.AVal.int Go.IntKind.i64 (0 : Int)) :: ((Go.Abs.AVal.int Go.IntKind.i64 (15 : Int)) :: [])))) []))
    (br ((Go.Abs.King.csIs m pots (3 : Int)))
     ((k (Go.Abs.AVal.tup ((Go.Abs.AVal.int Go.IntKind.i64 (0 : Int)) :: ((Go.Abs.AVal.int Go.IntKind.i64 (0 : Int)) :: ((Go.Abs.AVal.int Go.IntKind.i64 (3 : Int)) :: [])))) []))
     (Go.Abs.Loop (σ := ((List Int) × (Int × ((List (List Int)) × (Go.Abs.SemP × (Int × ((List Int) × (Int × (Int × (Int × ((List (List Int)) × Unit))))))))))) (fun K4 x4 =>
       br ((decide (x4.2.2.2.2.2.2.2.1 < x4.2.2.2.2.2.2.1)))
        (∃ h6 : (((0 : Int) ≤ x4.2.2.2.2.2.2.2.1) ∧ ((Int.toNat x4.2.2.2.2.2.2.2.1) < (List.length x4.2.2.2.2.2.1))),
        (Go.Abs.fitsK Go.IntKind.i64 (x4.2.2.2.2.2.2.2.2.1 - (1 : Int))) ∧
        (Go.Abs.King.v56.p (x4.2.2.2.2.1, ((x4.2.2.2.2.2.2.2.2.1 - (1 : Int)), (((x4.2.2.2.2.2.1[(Int.toNat x4.2.2.2.2.2.2.2.1)]'h6.2) :: []), ())))) ∧
        br ((Bool.not (Go.Abs.King.within x4.2.2.2.2.1 (x4.2.2.2.2.2.2.2.2.1 - (1 : Int)) ((x4.2.2.2.2.2.1[(Int.toNat x4.2.2.2.2.2.2.2.1)]'h6.2) :: []))))
         ((k (Go.Abs.AVal.tup ((Go.Abs.AVal.int Go.IntKind.i64 (0 : Int)) :: ((Go.Abs.AVal.int Go.IntKind.i64 (0 : Int)) :: ((Go.Abs.AVal.int Go.IntKind.i64 (2 : Int)) :: [])))) []))
         ((Go.Abs.fitsK Go.IntKind.i64 ((x4.2.2.2.2.2.1[(Int.toNat x4.2.2.2.2.2.2.2.1)]'h6.2) + (1 : Int))) ∧
         (Go.Abs.fitsK Go.IntKind.i64 (x4.2.2.2.2.2.2.2.1 + (1 : Int))) ∧
         (K4 (x4.1, (x4.2.1, (x4.2.2.1, (x4.2.2.2.1, (((x4.2.2.2.2.2.1[(Int.toNat x4.2.2.2.2.2.2.2.1)]'h6.2) + (1 : Int)), (x4.2.2.2.2.2.1, (x4.2.2.2.2.2.2.1, ((x4.2.2.2.2.2.2.2.1 + (1 : Int)), (x4.2.2.2.2.2.2.2.2.1, (x4.2.2.2.2.2.2.2.2.2.1, ())))))))))))))
        ((Go.Abs.King.v57.p (x4.2.1, (x4.2.2.1, (x4.2.2.2.1, (x4.1, ()))))) ∧
        br ((Bool.not (Go.Abs.King.hardB x4.2.2.1 x4.1)))
         ((k (Go.Abs.AVal.tup ((Go.Abs.AVal.int Go.IntKind.i64 (0 : Int)) :: ((Go.Abs.AVal.int Go.IntKind.i64 (0 : Int)) :: ((Go.Abs.AVal.int Go.IntKind.i64 (5 : Int)) :: [])))) []))
         ((k (Go.Abs.AVal.tup ((Go.Abs.AVal.int Go.IntKind.i64 (Go.Abs.King.hardI x4.2.2.1 x4.1)) :: ((Go.Abs.AVal.int Go.IntKind.i64 (Go.Abs.King.hardK x4.2.2.1 x4.1)) :: ((Go.Abs.AVal.int Go.IntKind.i64 (0 : Int)) :: [])))) [])))) ((marks, (m, (pots, ((Go.Abs.memoP (Go.Abs.King.looksI m pots)), ((0 : Int), (marks, ((((List.length marks) : Nat) : Int), ((0 : Int), (m, (pots, ()))))))))))))))
theorem eq18 (m : Int) (pots : List (List Int)) (marks : List Int) (k : AVal → List Cont → Prop) : awpF (envOf [(55, mkC [v55]), (56, mkC [v56]), (57, mkC [v57])]) Try.prog kt 18 false Try.f18 (v18.S.enc Unit (m, pots, marks, ())).1 [] k = vc18 m pots marks k := by kernel_rfl
theorem tx18 : (Try.f18.body.map Code.textsOk).getD true = true := by kernel_rfl

def vc20 (m : Int) (pots : List (List Int)) (seen : List Int) (k : AVal → List Cont → Prop) : Prop :=
  (Go.Abs.King.v59.p (m, (pots, (seen, ())))) ∧
  br ((Go.Abs.King.seIs m pots seen (6 : Int)))
   ((k (Go.Abs.AVal.tup ((Go.Abs.AVal.reg (0 : Nat) Bool.false) :: ((Go.Abs.AVal.int Go.IntKind.i64 (6 : Int)) :: []))) ((Go.Abs.Cont.sl (Go.Abs.Ty.int Go.IntKind.i64) []) :: [])))
   (br ((Go.Abs.King.seIs m pots seen (15 : Int)))
    ((k (Go.Abs.AVal.tup ((Go.Abs.AVal.reg (0 : Nat) Bool.false) :: ((Go.Abs.AVal.int Go.IntKind.i64 (15 : Int)) :: []))) ((Go.Abs.Cont.sl (Go.Abs.Ty.int Go.IntKind.i64) []) :: [])))
    (br ((Go.Abs.King.seIs m pots seen (3 : Int)))
     ((k (Go.Abs.AVal.tup ((Go.Abs.AVal.reg (0 : Nat) Bool.false) :: ((Go.Abs.AVal.int Go.IntKind.i64 (3 : Int)) :: []))) ((Go.Abs.Cont.sl (Go.Abs.Ty.int Go.IntKind.i64) []) :: [])))
     ((Go.Abs.King.v60.p ((((Go.Abs.King.agree pots (Int.toNat m) seen) : Nat) : Int), ())) ∧
     (k (Go.Abs.AVal.tup ((Go.Abs.AVal.reg (0 : Nat) Bool.false) :: ((Go.Abs.AVal.int Go.IntKind.i64 (0 : Int)) :: []))) ((Go.Abs.Cont.sl (Go.Abs.Ty.int Go.IntKind.i64) (Go.Abs.King.listed (Int.toNat (((Go.Abs.King.agree pots (Int.toNat m) seen) : Nat) : Int)) (8 : Nat))) :: [])))))
theorem eq20 (m : Int) (pots : List (List Int)) (seen : List Int) (k : AVal → List Cont → Prop) : awpF (envOf [(59, mkC [v59]), (60, mkC [v60])]) Try.prog kt 20 false Try.f20 (v20.S.enc Unit (m, pots, seen, ())).1 [] k = vc20 m pots seen k := by kernel_rfl
theorem tx20 : (Try.f20.body.map Code.textsOk).getD true = true := by kernel_rfl

def vc21 (m : Int) (pots : List (List Int)) (seen : List Int) (k : AVal → List Cont → Prop) : Prop :=
  (Go.Abs.King.v61.p (m, (pots, (seen, ())))) ∧
  br (((Go.Abs.King.seenErr m pots seen) != (0 : Int)))
   ((Go.Abs.King.v61.p (m, (pots, (seen, ())))) ∧
   (k (Go.Abs.AVal.tup ((Go.Abs.AVal.reg (0 : Nat) Bool.false) :: ((Go.Abs.AVal.int Go.IntKind.i64 (Go.Abs.King.seenErr m pots seen)) :: []))) ((Go.Abs.Cont.sl (Go.Abs.Ty.int Go.IntKind.i64) []) :: [])))
   ((Go.Abs.King.v62.p (m, (pots, (seen, ())))) ∧
   (Go.Abs.King.v41.p ((((Go.Abs.King.agree pots (Int.toNat m) seen) : Nat) : Int), ((((List.length pots) : Nat) : Int), ()))) ∧
   (k (Go.Abs.AVal.tup ((Go.Abs.AVal.reg (0 : Nat) Bool.false) :: ((Go.Abs.AVal.int Go.IntKind.i64 (0 : Int)) :: []))) ((Go.Abs.Cont.sl (Go.Abs.Ty.int Go.IntKind.i64) (Go.Abs.King.listed (Int.toNat (((Go.Abs.King.agree pots (Int.toNat m) seen) : Nat) : Int)) (Int.toNat (((List.length pots) : Nat) : Int)))) :: [])))
theorem eq21 (m : Int) (pots : List (List Int)) (seen : List Int) (k : AVal → List Cont → Prop) : awpF (envOf [(61, mkC [v61]), (62, mkC [v62]), (41, mkC [v41])]) Try.prog kt 21 false Try.f21 (v21.S.enc Unit (m, pots, seen, ())).1 [] k = vc21 m pots seen k := by kernel_rfl
theorem tx21 : (Try.f21.body.map Code.textsOk).getD true = true := by kernel_rfl

end Go.Abs.King
end

section
/- The king's functions keep their contracts: fourth part. -/
open Go.Proofs
set_option maxRecDepth 100000
set_option linter.unusedVariables false
namespace Go.Abs.King

theorem k45 (hG : Good Try.prog (envOf [])) : v45.Kept Try.prog 45 := by
  rintro ⟨m, pots, ⟨⟩⟩ hpre k hk
  change List (List Int) at pots
  change Int at m
  refine aspec hmix hG Try.func45 tx45 (Eq.mpr (eq45 m pots k) ?_)
  have hm : m ≤ 100 := hpre
  replace hk : k (.reg 0 false) [.sl (.int .i64) (List.replicate m.toNat (-1) : List Int)] := hk
  unfold vc45
  refine Loop.upto (fun i => ((i : Int), m, pots, List.replicate i (-1), ())) (fun i => True) m.toNat rfl trivial ?_ ?_
  · intro i K hi _ hK
    dsimp only
    rw [br_decide]
    have hK := hK trivial
    rw [List.replicate_succ'] at hK
    exact ⟨fun _ => ⟨by simp [big]; omega, fits64 (by omega) (by omega), hK⟩, fun h => absurd hi (by omega)⟩
  · intro K _
    dsimp only
    rw [br_decide]
    exact ⟨fun h => absurd h (by omega), fun _ => hk⟩

theorem bit_test8 (a i : Nat) (ha : a < 256) : (bitsA .and .u8 (shrA .u8 a i) 1 == 1) = a.testBit i := by
  have h1 : shrA .u8 (a : Int) (i : Int) = ((a >>> i : Nat) : Int) := by
    have e : shrA .u8 (a : Int) (i : Int) = (a : Int).fdiv (2 ^ (min i 8)) := by
      unfold shrA; simp [IntKind.bits]
    rw [e, Nat.shiftRight_eq_div_pow]
    have h2 : ((2 : Int) ^ (min i 8)) = ((2 ^ (min i 8) : Nat) : Int) := by simp
    rw [h2, Int.fdiv_eq_ediv_of_nonneg _ (Int.natCast_nonneg _), ← Int.natCast_ediv]
    congr 1
    rcases Nat.lt_or_ge i 8 with h | h
    · rw [Nat.min_eq_left (by omega)]
    · rw [Nat.min_eq_right h]
      have h64 : a < 2 ^ 8 := by omega
      rw [Nat.div_eq_of_lt h64, Nat.div_eq_of_lt (Nat.lt_of_lt_of_le h64 (Nat.pow_le_pow_right (by omega) h))]
  rw [h1]
  have hle : a >>> i < 256 := Nat.lt_of_le_of_lt (Nat.shiftRight_le a i) ha
  have h2 : bitsA .and .u8 ((a >>> i : Nat) : Int) 1 = (((a >>> i) &&& 1 : Nat) : Int) := by
    show IntKind.u8.wrap ((BitVec.ofInt 8 ((a >>> i : Nat) : Int) &&& BitVec.ofInt 8 ((1 : Nat) : Int)).toNat : Int) = _
    have o : ∀ x : Nat, x < 256 → (BitVec.ofInt 8 (x : Int)).toNat = x := by
      intro x hx
      rw [BitVec.toNat_ofInt]
      have : ((x : Int) % ((2 ^ 8 : Nat) : Int)) = (x : Int) := by
        apply Int.emod_eq_of_lt
        · omega
        · have : ((2 ^ 8 : Nat) : Int) = 256 := by decide
          rw [this]; omega
      rw [this]; simp
    rw [BitVec.toNat_and, o _ hle, o 1 (by omega), IntKind.wrap_u8]
    have : (a >>> i) &&& 1 ≤ 1 := Nat.and_le_right
    omega
  rw [h2, Nat.testBit]
  simp only [Nat.and_one_is_mod, Nat.one_and_eq_mod_two]
  generalize a >>> i = q
  have hq : q % 2 = 0 ∨ q % 2 = 1 := by omega
  rcases hq with h | h <;> simp [h]

def seenUp (pots : List (List Int)) (m pot b i : Nat) : List Int := (List.range m).map (fun j => if j < i ∧ b.testBit j then mk pots pot j else -1)

theorem seenUp_len (pots : List (List Int)) (m pot b i : Nat) : (seenUp pots m pot b i).length = m := by simp [seenUp]
theorem seenUp_set (pots : List (List Int)) (m pot b i : Nat) (h : b.testBit i = true) : seenUp pots m pot b (i + 1) = (seenUp pots m pot b i).set i (mk pots pot i) := by
  apply List.ext_getElem
  · simp [seenUp]
  · intro j h1 h2
    have hj : j < m := by simpa [seenUp] using h1
    rw [List.getElem_set]
    by_cases e : i = j
    · subst e; simp [seenUp, h]
    · rw [if_neg e]
      simp only [seenUp, List.getElem_map, List.getElem_range]
      have : (j < i + 1 ∧ b.testBit j = true) ↔ (j < i ∧ b.testBit j = true) := by
        constructor <;> (rintro ⟨q, r⟩; exact ⟨by omega, r⟩)
      simp only [this]
theorem seenUp_same (pots : List (List Int)) (m pot b i : Nat) (h : b.testBit i = false) : seenUp pots m pot b (i + 1) = seenUp pots m pot b i := by
  unfold seenUp
  congr 1
  funext j
  have : (j < i + 1 ∧ b.testBit j = true) ↔ (j < i ∧ b.testBit j = true) := by
    constructor
    · rintro ⟨q, r⟩
      refine ⟨?_, r⟩
      rcases Nat.lt_or_ge j i with h' | h'
      · exact h'
      · obtain rfl : j = i := by omega
        rw [h] at r; cases r
    · rintro ⟨q, r⟩; exact ⟨by omega, r⟩
  simp only [this]

theorem k46 (hG : Good Try.prog (envOf [(45, mkC [v45])])) : v46.Kept Try.prog 46 := by
  rintro ⟨m, pots, pot, bits, ⟨⟩⟩ hpre k hk
  change List (List Int) at pots
  change Int at m pot bits
  refine aspec hmix hG Try.func46 tx46 (Eq.mpr (eq46 m pots pot bits k) ?_)
  obtain ⟨hf, h1, h2, h3⟩ := hpre
  have hf : checkShelf m pots = 0 := hf
  have h1 : 0 ≤ pot ∧ pot < (pots.length : Int) := h1
  have h2 : 0 ≤ bits := h2
  have h3 : bits ≤ 255 := h3
  obtain ⟨f1, f2, f3, f4⟩ := fine_spec hf
  replace hk : k (.reg 0 false) [.sl (.int .i64) (seenOf pots m.toNat pot.toNat bits.toNat)] := hk
  obtain ⟨b, rfl⟩ := Int.eq_ofNat_of_zero_le h2
  obtain ⟨p, rfl⟩ := Int.eq_ofNat_of_zero_le h1.1
  obtain ⟨mm, rfl⟩ := Int.eq_ofNat_of_zero_le (show 0 ≤ m by omega)
  simp only [Int.toNat_natCast] at hk
  unfold vc46
  refine ⟨by show (mm : Int) ≤ 100; omega, ?_⟩
  refine Loop.upto (fun i => ((p : Int), (b : Int), (i : Int), (mm : Int), pots, seenUp pots mm p b i, ())) (fun i => True) mm ?_ trivial ?_ ?_
  · have : seenUp pots mm p b 0 = List.replicate mm (-1) := by simp [seenUp, List.map_const']
    rw [this]
    rfl
  · intro i K hi _ hK
    dsimp only
    have hK := hK trivial
    have hp : p < pots.length := by omega
    have hlen := f3 _ (List.getElem_mem hp)
    have hl := seenUp_len pots mm p b i
    rw [br_decide]
    refine ⟨fun _ => ⟨by omega, ?_⟩, fun h => absurd hi (by omega)⟩
    rw [bit_test8 b i (by omega)]
    refine br_intro (fun h => ?_) (fun h => ⟨fits64 (by omega) (by omega), ?_⟩)
    · simp only [Int.toNat_natCast]
      refine ⟨⟨by omega, by omega⟩, ⟨by omega, by omega⟩, ⟨by omega, by omega⟩, by omega, fits64 (by omega) (by omega), ?_⟩
      have e : mk pots p i = pots[p][i] := mk_eq hp (by omega)
      rw [seenUp_set _ _ _ _ _ h, e] at hK
      exact hK
    · rw [seenUp_same _ _ _ _ _ h] at hK
      exact hK
  · intro K _
    dsimp only
    rw [br_decide]
    refine ⟨fun h => absurd h (by omega), fun _ => ?_⟩
    have : seenUp pots mm p b mm = seenOf pots mm p b := by
      unfold seenUp seenOf
      apply List.map_congr_left
      intro j hj
      have : j < mm := by simpa using hj
      simp [this]
    rw [this]
    exact hk

theorem k62 (hG : Good Try.prog (envOf [])) : v62.Kept Try.prog 62 := by
  rintro ⟨m, pots, seen, ⟨⟩⟩ hpre k hk
  change List (List Int) at pots
  change List Int at seen
  change Int at m
  refine aspec hmix hG Try.func62 tx62 (Eq.mpr (eq62 m pots seen k) ?_)
  have hs : seenErr m pots seen = 0 := hpre
  have hf : checkShelf m pots = 0 := by
    unfold seenErr at hs
    split at hs
    · rename_i h; exact absurd hs h
    · rename_i h; simpa using h
  have hl : (seen.length : Int) = m := by
    unfold seenErr at hs
    rw [if_neg (by simp [hf])] at hs
    split at hs
    · omega
    · rename_i h; simpa using h
  obtain ⟨f1, f2, f3, f4⟩ := fine_spec hf
  replace hk : k (rI (agree pots m.toNat seen)) [] := hk
  obtain ⟨mm, rfl⟩ := Int.eq_ofNat_of_zero_le (show 0 ≤ m by omega)
  simp only [Int.toNat_natCast] at hk
  let p : Nat → Bool := fun i => (List.range mm).all (fun k => decide (seen.getD k 0 < 0 ∨ seen.getD k 0 = mk pots i k))
  let pj : Nat → Nat → Bool := fun i j => (List.range j).all (fun k => decide (seen.getD k 0 < 0 ∨ seen.getD k 0 = mk pots i k))
  have pj_succ : ∀ i j, pj i (j + 1) = (pj i j && decide (seen.getD j 0 < 0 ∨ seen.getD j 0 = mk pots i j)) := by
    intro i j
    simp only [pj]
    rw [List.range_succ, List.all_append]
    simp
  unfold vc62
  refine Loop.upto (fun i => (seen, ((bitsOf i p : Nat) : Int), (i : Int), (mm : Int), pots, ())) (fun i => True) pots.length rfl trivial ?_ ?_
  · intro i K hi _ hK
    dsimp only
    have hK := hK trivial
    rw [bitsOf_succ] at hK
    have hlen := f3 _ (List.getElem_mem hi)
    rw [br_decide]
    refine ⟨fun _ => ?_, fun h => absurd hi (by omega)⟩
    refine Loop.upto (fun j => (seen, ((bitsOf i p : Nat) : Int), (i : Int), pj i j, (j : Int), (mm : Int), pots, ())) (fun j => True) mm rfl trivial ?_ ?_
    · intro j K2 hj _ hK2
      dsimp only
      have hK2 := hK2 trivial
      rw [pj_succ] at hK2
      rw [br_decide]
      refine ⟨fun _ => ?_, fun h => absurd hj (by omega)⟩
      rw [br_bt]
      have hjs : j < seen.length := by omega
      have es : seen.getD j 0 = seen[j] := by simp [List.getD_eq_getElem?_getD, hjs]
      refine ⟨fun hb => ⟨⟨by omega, by omega⟩, ?_⟩, fun hb => ⟨fits64 (by omega) (by omega), ?_⟩⟩
      · simp only [Int.toNat_natCast]
        rw [br_false]
        refine ⟨fun hn => ⟨⟨by omega, hjs⟩, ⟨by omega, hi⟩, ⟨by omega, by omega⟩, fits64 (by omega) (by omega), ?_⟩, fun hn => ⟨fits64 (by omega) (by omega), ?_⟩⟩
        · have e : mk pots i j = pots[i][j] := mk_eq hi (by omega)
          rw [es, hb, Bool.true_and] at hK2
          have : decide (seen[j] < 0 ∨ seen[j] = mk pots i j) = (seen[j] == pots[i][j]) := by
            rw [e, Bool.eq_iff_iff]
            simp only [decide_eq_true_eq, beq_iff_eq]
            constructor
            · rintro (h | h)
              · exact absurd h hn
              · exact h
            · exact .inr
          rw [this] at hK2
          exact hK2
        · rw [es, hb, Bool.true_and] at hK2
          have : decide (seen[j] < 0 ∨ seen[j] = mk pots i j) = true := by simp [hn]
          rw [this] at hK2
          exact hK2
      · rw [hb, Bool.false_and] at hK2
        exact hK2
    · intro K2 _
      dsimp only
      rw [br_decide]
      refine ⟨fun h => absurd h (by omega), fun _ => ?_⟩
      have hpj : pj i mm = p i := rfl
      rw [hpj]
      refine br_intro (fun h => ⟨by omega, fits64 (by omega) (by omega), ?_⟩) (fun h => ⟨fits64 (by omega) (by omega), ?_⟩)
      · rw [if_pos h] at hK
        rw [or_bit _ _ (bitsOf_lt i p) (by omega)]
        exact hK
      · rw [if_neg (by simp [h])] at hK
        exact hK
  · intro K _
    dsimp only
    rw [br_decide]
    exact ⟨fun h => absurd h (by omega), fun _ => hk⟩

theorem k60 (hG : Good Try.prog (envOf [])) : v60.Kept Try.prog 60 := by
  rintro ⟨bits, ⟨⟩⟩ hpre k hk
  change Int at bits
  refine aspec hmix hG Try.func60 tx60 (Eq.mpr (eq60 bits k) ?_)
  obtain ⟨h1, h2⟩ := hpre
  have h1 : 0 ≤ bits := h1
  have h2 : bits < 4611686018427387904 := h2
  replace hk : k (.reg 0 false) [.sl (.int .i64) (listed bits.toNat 8)] := hk
  obtain ⟨b, rfl⟩ := Int.eq_ofNat_of_zero_le h1
  simp only [Int.toNat_natCast] at hk
  unfold vc60
  refine Loop.upto (fun i => ((i : Int), (b : Int), listed b i, ())) (fun i => True) 8 rfl trivial ?_ ?_
  · intro i K hi _ hK
    dsimp only
    rw [br_decide]
    have hlen := listed_len b i
    have hs := listed_succ b i
    refine ⟨fun _ => ⟨by omega, ?_⟩, fun h => absurd hi (by omega)⟩
    rw [bit_test b i (by omega)]
    have hK := hK trivial
    refine br_intro (fun h => ⟨by simp [big]; omega, fits64 (by omega) (by omega), ?_⟩) (fun h => ⟨fits64 (by omega) (by omega), ?_⟩)
    · rw [hs, if_pos h] at hK
      exact hK
    · rw [hs, if_neg (by simp [h]), List.append_nil] at hK
      exact hK
  · intro K _
    dsimp only
    rw [br_decide]
    exact ⟨fun h => absurd h (by omega), fun _ => hk⟩

theorem k76 (hG : Good Try.prog (envOf [])) : v76.Kept Try.prog 76 := by
  rintro ⟨m, pots, q, ⟨⟩⟩ hpre k hk
  change List (List Int) at pots
  change Int at m
  refine aspec hmix hG Try.func76 tx76 (Eq.mpr (eq76 m pots q k) ?_)
  have hf : checkShelf m pots = 0 := hpre
  obtain ⟨f1, f2, f3, f4⟩ := fine_spec hf
  replace hk : k (aS (((2 ^ pots.length - 1 : Nat) : Int))) [] := hk
  have hp : 2 ^ pots.length ≤ 2 ^ 8 := Nat.pow_le_pow_right (by omega) (by omega)
  have hp1 : 1 ≤ 2 ^ pots.length := Nat.one_le_two_pow
  have h40 : (2 : Nat) ^ 8 = 256 := by decide
  have e2 : ((2 ^ pots.length : Nat) : Int) - 1 = ((2 ^ pots.length - 1 : Nat) : Int) := by omega
  unfold vc76
  rw [one_shl pots.length (by omega), e2]
  exact ⟨by omega, fits64 (by omega) (by omega), hk⟩

theorem k79 (hG : Good Try.prog (envOf [])) : v79.Kept Try.prog 79 := by
  rintro ⟨m, pots, ⟨⟩⟩ hpre k hk
  change List (List Int) at pots
  change Int at m
  refine aspec hmix hG Try.func79 tx79 (Eq.mpr (eq79 m pots k) ?_)
  exact ⟨looksI m pots, hk⟩

theorem k64 (hG : Good Try.prog (envOf [])) : v64.Kept Try.prog 64 := by
  rintro ⟨p, m, pots, ⟨⟩⟩ hpre k hk
  change List (List Int) at pots
  change List Int at p
  change Int at m
  refine aspec hmix hG Try.func64 tx64 (Eq.mpr (eq64 p m pots k) ?_)
  replace hk : k (.bool (lenNot m p)) [] := hk
  unfold vc64
  have : (((p.length : Nat) : Int) != m) = lenNot m p := by
    rw [Bool.eq_iff_iff]; simp [lenNot]
  rwa [this]

theorem k65 (hG : Good Try.prog (envOf [(56, mkC [v56])])) : v65.Kept Try.prog 65 := by
  rintro ⟨p, ⟨⟩⟩ hpre k hk
  change List Int at p
  refine aspec hmix hG Try.func65 tx65 (Eq.mpr (eq65 p k) ?_)
  exact ⟨hpre, hk⟩
end Go.Abs.King
end

section
/- Conditions and their equations, printed by a program: second part. -/
open Go.Proofs
set_option maxRecDepth 100000
set_option linter.unusedVariables false
namespace Go.Abs.King
def vc59 (m : Int) (pots : List (List Int)) (seen : List Int) (k : AVal → List Cont → Prop) : Prop :=
  (Go.Abs.King.v55.p (m, (pots, ()))) ∧
  br ((Go.Abs.King.csIs m pots (6 : Int)))
   ((k (Go.Abs.AVal.tup (Go.Abs.AVal.unk :: ((Go.Abs.AVal.agg ((Go.Abs.AVal.int Go.IntKind.i64 (0 : Int)) :: [])) :: ((Go.Abs.AVal.int Go.IntKind.i64 (6 : Int)) :: [])))) []))
   (br ((Go.Abs.King.csIs m pots (15 : Int)))
    ((k (Go.Abs.AVal.tup (Go.Abs.AVal.unk :: ((Go.Abs.AVal.agg ((Go.Abs.AVal.int Go.IntKind.i64 (0 : Int)) :: [])) :: ((Go.Abs.AVal.int Go.IntKind.i64 (15 : Int)) :: [])))) []))
    (br ((Go.Abs.King.csIs m pots (3 : Int)))
     ((k (Go.Abs.AVal.tup (Go.Abs.AVal.unk :: ((Go.Abs.AVal.agg ((Go.Abs.AVal.int Go.IntKind.i64 (0 : Int)) :: [])) :: ((Go.Abs.AVal.int Go.IntKind.i64 (3 : Int)) :: [])))) []))
     (br (((((List.length seen) : Nat) : Int) != m))
      ((k (Go.Abs.AVal.tup (Go.Abs.AVal.unk :: ((Go.Abs.AVal.agg ((Go.Abs.AVal.int Go.IntKind.i64 (0 : Int)) :: [])) :: ((Go.Abs.AVal.int Go.IntKind.i64 (15 : Int)) :: [])))) []))
      ((Go.Abs.King.v56.p ((Neg.neg (1 : Int)), ((4 : Int), (seen, ())))) ∧
      br ((Bool.not (Go.Abs.King.within (Neg.neg (1 : Int)) (4 : Int) seen)))
       ((k (Go.Abs.AVal.tup (Go.Abs.AVal.unk :: ((Go.Abs.AVal.agg ((Go.Abs.AVal.int Go.IntKind.i64 (0 : Int)) :: [])) :: ((Go.Abs.AVal.int Go.IntKind.i64 (3 : Int)) :: [])))) []))
       ((Go.Abs.King.v76.p (m, (pots, ((Go.Abs.memoP (Go.Abs.King.looksI m pots)), ())))) ∧
       Go.Abs.Loop (σ := (Int × ((List (List Int)) × (Go.Abs.SemP × ((List Int) × (Int × (Int × (Int × (Int × Unit))))))))) (fun K4 x4 =>
         br ((decide (x4.2.2.2.2.2.1 < x4.2.2.2.2.1)))
          (∃ h6 : (((0 : Int) ≤ x4.2.2.2.2.2.1) ∧ ((Int.toNat x4.2.2.2.2.2.1) < (List.length x4.2.2.2.1))),
          br ((decide ((x4.2.2.2.1[(Int.toNat x4.2.2.2.2.2.1)]'h6.2) ≥ (0 : Int))))
           ((Go.Abs.King.v84.p (x4.1, (x4.2.1, (x4.2.2.1, (x4.2.2.2.2.2.2.2.1, (x4.2.2.2.2.2.1, ((x4.2.2.2.1[(Int.toNat x4.2.2.2.2.2.1)]'h6.2), ()))))))) ∧
           (Go.Abs.fitsK Go.IntKind.i64 (x4.2.2.2.2.2.1 + (1 : Int))) ∧
           (K4 (x4.1, (x4.2.1, (x4.2.2.1, (x4.2.2.2.1, (x4.2.2.2.2.1, ((x4.2.2.2.2.2.1 + (1 : Int)), (x4.2.2.2.2.2.2.1, ((((Go.Abs.King.partOf x4.2.1 (Int.toNat x4.2.2.2.2.2.2.2.1) (Int.toNat x4.2.2.2.2.2.1) (x4.2.2.2.1[(Int.toNat x4.2.2.2.2.2.1)]'h6.2)) : Nat) : Int), ()))))))))))
           ((Go.Abs.fitsK Go.IntKind.i64 (x4.2.2.2.2.2.1 + (1 : Int))) ∧
           (K4 (x4.1, (x4.2.1, (x4.2.2.1, (x4.2.2.2.1, (x4.2.2.2.2.1, ((x4.2.2.2.2.2.1 + (1 : Int)), (x4.2.2.2.2.2.2.1, (x4.2.2.2.2.2.2.2.1, ())))))))))))
          ((k (Go.Abs.AVal.tup ((Go.Abs.AVal.iptr ((Go.Abs.AVal.int Go.IntKind.i64 x4.1) :: ((Go.Abs.AVal.imm (Go.Abs.Ty.slice (Go.Abs.Ty.int Go.IntKind.i64)) x4.2.1 Bool.false) :: ((Go.Abs.AVal.sem x4.2.2.1) :: [])))) :: ((Go.Abs.AVal.agg ((Go.Abs.AVal.int Go.IntKind.i64 x4.2.2.2.2.2.2.2.1) :: [])) :: ((Go.Abs.AVal.int Go.IntKind.i64 (0 : Int)) :: [])))) []))) ((m, (pots, ((Go.Abs.memoP (Go.Abs.King.looksI m pots)), (seen, ((((List.length seen) : Nat) : Int), ((0 : Int), ((0 : Int), ((((((2 : Nat) ^ (List.length pots)) - (1 : Nat)) : Nat) : Int), ()))))))))))))))
theorem eq59 (m : Int) (pots : List (List Int)) (seen : List Int) (k : AVal → List Cont → Prop) : awpF (envOf [(55, mkC [v55]), (56, mkC [v56]), (76, mkC [v76]), (84, mkC [v84])]) Try.prog kt 59 false Try.f59 (v59.S.enc Unit (m, pots, seen, ())).1 [] k = vc59 m pots seen k := by kernel_rfl
theorem tx59 : (Try.f59.body.map Code.textsOk).getD true = true := by kernel_rfl

end Go.Abs.King
end

section
/- The king's functions keep their contracts: fifth part. -/
open Go.Proofs
set_option maxRecDepth 100000
set_option linter.unusedVariables false
namespace Go.Abs.King

theorem mem_listed {b n : Nat} {x : Int} (h : x ∈ listed b n) : ∃ i : Nat, x = (i : Int) ∧ i < n ∧ b.testBit i = true := by
  unfold listed at h
  obtain ⟨i, hi, rfl⟩ := List.mem_map.1 h
  obtain ⟨h1, h2⟩ := List.mem_filter.1 hi
  exact ⟨i, rfl, by simpa using h1, h2⟩

theorem lt_of_test {b n i : Nat} (hb : b < 2 ^ n) (h : b.testBit i = true) : i < n := by
  rcases Nat.lt_or_ge i n with h' | h'
  · exact h'
  · have := Nat.testBit_lt_two_pow (Nat.lt_of_lt_of_le hb (Nat.pow_le_pow_right (by omega) h'))
    rw [this] at h; cases h

/-- Bits, one after the other. -/
def orUp (q : Nat → Bool) (l : List Int) : Nat := l.foldl (fun acc x => if q x.toNat then acc ||| 2 ^ x.toNat else acc) 0
theorem orUp_snoc (q : Nat → Bool) (l : List Int) (x : Int) : orUp q (l ++ [x]) = if q x.toNat then orUp q l ||| 2 ^ x.toNat else orUp q l := by
  unfold orUp; rw [List.foldl_append]; rfl
theorem orUp_lt (q : Nat → Bool) (n : Nat) (l : List Int) (h : ∀ x ∈ l, x.toNat < n) : orUp q l < 2 ^ n := by
  suffices ∀ (l : List Int) (acc : Nat), (∀ x ∈ l, x.toNat < n) → acc < 2 ^ n → l.foldl (fun acc x => if q x.toNat then acc ||| 2 ^ x.toNat else acc) acc < 2 ^ n from this l 0 h (Nat.two_pow_pos n)
  intro l
  induction l with
  | nil => intro acc _ ha; exact ha
  | cons x l ih =>
    intro acc hl ha
    refine ih _ (fun y hy => hl y (List.mem_cons_of_mem _ hy)) ?_
    dsimp only
    split
    · exact Nat.or_lt_two_pow ha (Nat.pow_lt_pow_right (by omega) (hl x (by simp)))
    · exact ha
theorem orUp_listed (q : Nat → Bool) (b n : Nat) : orUp q (listed b n) = bitsOf n (fun i => b.testBit i && q i) := by
  induction n with
  | zero => simp [orUp, listed, bitsOf]
  | succ n ih =>
    rw [listed_succ, bitsOf_succ]
    cases hb : b.testBit n with
    | true =>
      rw [if_pos rfl, orUp_snoc, ih]
      simp
    | false => simp [ih]
theorem bitsOf_cut (q : Nat → Bool) (b n n' : Nat) (hb : b < 2 ^ n) (h : n ≤ n') : bitsOf n' (fun i => b.testBit i && q i) = bitsOf n (fun i => b.testBit i && q i) := by
  apply Nat.eq_of_testBit_eq
  intro i
  rw [bitsOf_test, bitsOf_test]
  cases ht : b.testBit i with
  | false => simp
  | true =>
    have := lt_of_test hb ht
    have h2 : i < n' := by omega
    simp [this, h2]
theorem listed_cut (b n n' : Nat) (hb : b < 2 ^ n) (h : n ≤ n') : listed b n' = listed b n := by
  induction n' with
  | zero => obtain rfl : n = 0 := by omega
            rfl
  | succ k ih =>
    rcases Nat.lt_or_ge k n with h' | h'
    · obtain rfl : n = k + 1 := by omega
      rfl
    · rw [listed_succ, ih h']
      have : b.testBit k = false := Nat.testBit_lt_two_pow (Nat.lt_of_lt_of_le hb (Nat.pow_le_pow_right (by omega) h'))
      simp [this]

theorem k84 (hG : Good Try.prog (envOf [(60, mkC [v60])])) : v84.Kept Try.prog 84 := by
  rintro ⟨m, pots, q, bits, mark, value, ⟨⟩⟩ hpre k hk
  change List (List Int) at pots
  change Int at m bits mark value
  refine aspec hmix hG Try.func84 tx84 (Eq.mpr (eq84 m pots q bits mark value k) ?_)
  obtain ⟨hf, ⟨h1, h2⟩, h3, h4⟩ := hpre
  have hf : checkShelf m pots = 0 := hf
  have h1 : 0 ≤ bits := h1
  have h2 : bits < ((2 ^ pots.length : Nat) : Int) := h2
  have h3 : 0 ≤ mark := h3
  have h4 : mark < m := h4
  obtain ⟨f1, f2, f3, f4⟩ := fine_spec hf
  replace hk : k (aS (partOf pots bits.toNat mark.toNat value)) [] := hk
  obtain ⟨b, rfl⟩ := Int.eq_ofNat_of_zero_le h1
  obtain ⟨j, rfl⟩ := Int.eq_ofNat_of_zero_le h3
  simp only [Int.toNat_natCast] at hk
  have hb : b < 2 ^ pots.length := by omega
  have hp8 : 2 ^ pots.length ≤ 2 ^ 8 := Nat.pow_le_pow_right (by omega) (by omega)
  have h256 : (2 : Nat) ^ 8 = 256 := by decide
  have hin : ∀ x ∈ listed b 8, ∃ i : Nat, x = (i : Int) ∧ i < pots.length := by
    intro x hx
    obtain ⟨i, rfl, _, ht⟩ := mem_listed hx
    exact ⟨i, rfl, lt_of_test hb ht⟩
  have hfin : orUp (fun i => decide (mk pots i j = value)) (listed b 8) = partOf pots b j value := by
    rw [orUp_listed, bitsOf_cut _ _ pots.length 8 hb (by omega)]; rfl
  unfold vc84
  simp only [Int.toNat_natCast]
  refine ⟨⟨by show (0 : Int) ≤ (b : Int); omega, by show (b : Int) < 4611686018427387904; omega⟩, ?_⟩
  have hlen8 := listed_len b 8
  generalize hL : listed b 8 = L at hin hfin hlen8 ⊢
  refine Loop.upto (fun i => (m, pots, q, (j : Int), value, ((L.length : Nat) : Int), (i : Int), 0, ((orUp (fun i => decide (mk pots i j = value)) (L.take i) : Nat) : Int), L, ())) (fun i => True) L.length (by simp [orUp]) trivial ?_ ?_
  · intro i K hi _ hK
    dsimp only
    have hK := hK trivial
    rw [List.take_succ_eq_append_getElem hi, orUp_snoc] at hK
    rw [br_decide]
    refine ⟨fun _ => ⟨⟨by omega, by omega⟩, ?_⟩, fun h => absurd hi (by omega)⟩
    simp only [Int.toNat_natCast]
    obtain ⟨x, hx, hxl⟩ := hin _ (List.getElem_mem hi)
    have hlen := f3 _ (List.getElem_mem hxl)
    refine ⟨hi, ?_⟩
    simp only [hx, Int.toNat_natCast] at hK ⊢
    refine ⟨⟨by omega, hxl⟩, ⟨by omega, by omega⟩, ?_⟩
    have e : mk pots x j = pots[x][j] := mk_eq hxl (by omega)
    rw [← e, br_beq]
    have hlt : orUp (fun i => decide (mk pots i j = value)) (L.take i) < 2 ^ 8 := orUp_lt _ 8 _ (fun y hy => by
      obtain ⟨z, rfl, hz⟩ := hin y (List.mem_of_mem_take hy)
      simp; omega)
    have hpx := pow_lt62 x (by omega)
    refine ⟨fun h5 => ⟨by omega, fits64 (by omega) (by omega), ?_⟩, fun h5 => ⟨fits64 (by omega) (by omega), ?_⟩⟩
    · rw [if_pos (by simpa using h5)] at hK
      rw [one_shl x (by omega), lor_nat _ _ (by omega) hpx]
      exact hK
    · rw [if_neg (by simpa using h5)] at hK
      exact hK
  · intro K _
    dsimp only
    rw [br_decide]
    refine ⟨fun h => absurd h (by omega), fun _ => ?_⟩
    rw [List.take_length, hfin]
    exact hk

theorem apart_succ (pots : List (List Int)) (n i k : Nat) : apart pots (n + 1) i k = apart pots n i k ++ (if mk pots i n ≠ mk pots k n then [(n : Int)] else []) := by
  unfold apart
  rw [List.range_succ, List.filter_append, List.map_append]
  by_cases h : mk pots i n = mk pots k n <;> simp [h]
theorem apart_len (pots : List (List Int)) (n i k : Nat) : (apart pots n i k).length ≤ n := by
  unfold apart
  rw [List.length_map]
  exact Nat.le_trans (List.length_filter_le _ _) (by simp)

theorem k68 (hG : Good Try.prog (envOf [])) : v68.Kept Try.prog 68 := by
  rintro ⟨m, pots, q, i, j, ⟨⟩⟩ hpre k hk
  change List (List Int) at pots
  change Int at m i j
  refine aspec hmix hG Try.func68 tx68 (Eq.mpr (eq68 m pots q i j k) ?_)
  obtain ⟨hf, h1, h2⟩ := hpre
  have hf : checkShelf m pots = 0 := hf
  have h1 : 0 ≤ i ∧ i < (pots.length : Int) := h1
  have h2 : 0 ≤ j ∧ j < (pots.length : Int) := h2
  obtain ⟨f1, f2, f3, f4⟩ := fine_spec hf
  replace hk : k (.reg 0 false) [.sl (.int .i64) (apart pots m.toNat i.toNat j.toNat)] := hk
  obtain ⟨a, rfl⟩ := Int.eq_ofNat_of_zero_le h1.1
  obtain ⟨b, rfl⟩ := Int.eq_ofNat_of_zero_le h2.1
  obtain ⟨n, rfl⟩ := Int.eq_ofNat_of_zero_le (show 0 ≤ m by omega)
  simp only [Int.toNat_natCast] at hk
  unfold vc68
  refine Loop.upto (fun t => ((n : Int), pots, q, (a : Int), (b : Int), (n : Int), (t : Int), apart pots t a b, ())) (fun t => True) n rfl trivial ?_ ?_
  · intro t K ht _ hK
    dsimp only
    have hK := hK trivial
    rw [apart_succ] at hK
    have ha : a < pots.length := by omega
    have hb : b < pots.length := by omega
    have l1 := f3 _ (List.getElem_mem ha)
    have l2 := f3 _ (List.getElem_mem hb)
    have hal := apart_len pots t a b
    rw [br_decide]
    refine ⟨fun _ => ⟨⟨by omega, by omega⟩, ?_⟩, fun h => absurd ht (by omega)⟩
    simp only [Int.toNat_natCast]
    refine ⟨⟨by omega, by omega⟩, ⟨by omega, by omega⟩, ⟨by omega, by omega⟩, ?_⟩
    have e1 : mk pots a t = pots[a][t] := mk_eq ha (by omega)
    have e2 : mk pots b t = pots[b][t] := mk_eq hb (by omega)
    rw [← e1, ← e2, br_bne]
    refine ⟨fun h => ⟨by simp [big]; omega, fits64 (by omega) (by omega), ?_⟩, fun h => ⟨fits64 (by omega) (by omega), ?_⟩⟩
    · rw [if_pos h] at hK
      exact hK
    · rw [if_neg (by simpa using h), List.append_nil] at hK
      exact hK
  · intro K _
    dsimp only
    rw [br_decide]
    exact ⟨fun h => absurd h (by omega), fun _ => hk⟩

theorem apart_mem {pots : List (List Int)} {m a b : Nat} {x : Int} : x ∈ apart pots m a b ↔ ∃ j : Nat, x = (j : Int) ∧ j < m ∧ mk pots a j ≠ mk pots b j := by
  unfold apart
  rw [List.mem_map]
  constructor
  · rintro ⟨j, hj, rfl⟩
    obtain ⟨h1, h2⟩ := List.mem_filter.1 hj
    exact ⟨j, rfl, List.mem_range.1 h1, of_decide_eq_true h2⟩
  · rintro ⟨j, rfl, h1, h2⟩
    exact ⟨j, List.mem_filter.2 ⟨List.mem_range.2 h1, decide_eq_true h2⟩, rfl⟩
theorem tells_iff {pots : List (List Int)} {marks : List Int} {a b : Nat} : tells pots marks a b = true ↔ ∃ y ∈ marks, mk pots a y.toNat ≠ mk pots b y.toNat := by
  unfold tells
  rw [List.any_eq_true]
  constructor
  · rintro ⟨y, hy, h⟩; exact ⟨y, hy, by have := of_decide_eq_true h; simpa [mkI] using this⟩
  · rintro ⟨y, hy, h⟩; exact ⟨y, hy, decide_eq_true (by simpa [mkI] using h)⟩
theorem hasI_iff {l : List Int} {x : Int} : hasI l x = true ↔ x ∈ l := by
  unfold hasI isI
  rw [List.any_eq_true]
  constructor
  · rintro ⟨y, hy, h⟩; rw [of_decide_eq_true h]; exact hy
  · intro h; exact ⟨x, h, decide_eq_true rfl⟩
theorem anyHas_tells {m : Nat} (pots : List (List Int)) (marks : List Int) (a b : Nat) (hm : ∀ j ∈ marks, 0 ≤ j ∧ j < (m : Int)) : anyHas (apart pots m a b) marks = tells pots marks a b := by
  rw [Bool.eq_iff_iff, tells_iff]
  unfold anyHas
  rw [List.any_eq_true]
  constructor
  · rintro ⟨x, hx, h⟩
    obtain ⟨j, rfl, h1, h2⟩ := apart_mem.1 hx
    exact ⟨_, hasI_iff.1 h, by simpa using h2⟩
  · rintro ⟨y, hy, h⟩
    have h2 := hm y hy
    exact ⟨y, apart_mem.2 ⟨y.toNat, by omega, by omega, h⟩, hasI_iff.2 hy⟩

theorem k57 (hG : Good Try.prog (envOf [(68, mkC [v68]), (80, mkC [v80a, v80b])])) : v57.Kept Try.prog 57 := by
  rintro ⟨m, pots, q, marks, ⟨⟩⟩ hpre k hk
  change List (List Int) at pots
  change List Int at marks
  change Int at m
  refine aspec hmix hG Try.func57 tx57 (Eq.mpr (eq57 m pots q marks k) ?_)
  replace hk : k (.tup [rI (hardI pots marks), rI (hardK pots marks), .bool (hardB pots marks)]) [] := hk
  obtain ⟨hf, hl, hm⟩ := hpre
  have hf : checkShelf m pots = 0 := hf
  have hm : ∀ j ∈ marks, 0 ≤ j ∧ j < m := hm
  obtain ⟨f1, f2, f3, f4⟩ := fine_spec hf
  obtain ⟨mm, rfl⟩ := Int.eq_ofNat_of_zero_le (show 0 ≤ m by omega)
  unfold vc57
  refine Loop.upto (fun i => ((mm : Int), pots, q, (mm : Int), pots, q, ((pots.length : Nat) : Int), (i : Int), marks, ())) (fun i => ∀ j, j < i → hardIn pots marks j = none) pots.length rfl (fun j h => by omega) ?_ ?_
  · intro i K hi hp hK
    dsimp only
    rw [br_decide]
    refine ⟨fun _ => ⟨fits64 (by omega) (by omega), ?_⟩, fun h => absurd hi (by omega)⟩
    refine Loop.upto (fun j => ((mm : Int), pots, q, (mm : Int), pots, q, (i : Int), ((i + 1 + j : Nat) : Int), ((pots.length : Nat) : Int), (i : Int), marks, ())) (fun j => ∀ k, i + 1 ≤ k → k < i + 1 + j → (!tells pots marks i k) = false) (pots.length - (i + 1)) rfl (fun k h1 h2 => by omega) ?_ ?_
    · intro j K2 hj hp2 hK2
      dsimp only
      rw [br_decide]
      refine ⟨fun _ => ⟨⟨hf, ⟨by show (0 : Int) ≤ (i : Int); omega, by show (i : Int) < (pots.length : Int); omega⟩, ⟨by show (0 : Int) ≤ ((i + 1 + j : Nat) : Int); omega, by show ((i + 1 + j : Nat) : Int) < (pots.length : Int); omega⟩⟩, ?_⟩, fun h => absurd hj (by omega)⟩
      simp only [Int.toNat_natCast]
      have hal := apart_len pots mm i (i + 1 + j)
      rw [anyHas_tells pots marks i (i + 1 + j) hm]
      refine ⟨⟨by show (apart pots mm i (i + 1 + j)).length ≤ 1152921504606846976; omega, hl⟩, ?_⟩
      rw [br_not]
      refine ⟨fun h => ?_, fun h => ⟨fits64 (by omega) (by omega), hK2 ?_⟩⟩
      · have e : hardIn pots marks i = some (i + 1 + j) := by
          unfold hardIn
          rw [find_range' _ _ _ (i + 1 + j) (by omega) (by omega) hp2]
          have e2 : i + 1 + (pots.length - (i + 1)) - (i + 1 + j) = (pots.length - (i + 1 + j + 1)) + 1 := by omega
          rw [e2, List.range'_succ, List.find?_cons, h]
          rfl
        have e3 : hardP pots marks = some (i, i + 1 + j) := by
          rw [hardP_eq, findSome_range _ _ i (by omega) (fun j hj => by simp [hp j hj])]
          have e2 : pots.length - i = (pots.length - (i + 1)) + 1 := by omega
          rw [e2, List.range'_succ, List.findSome?_cons, e]
          rfl
        simp only [hardI, hardK, hardB, hardOf, e3] at hk
        exact hk
      · intro k h1 h2
        rcases Nat.lt_or_ge k (i + 1 + j) with h' | h'
        · exact hp2 k h1 h'
        · obtain rfl : k = i + 1 + j := by omega
          rw [h]; rfl
    · intro K2 hp2
      dsimp only
      rw [br_decide]
      refine ⟨fun h => absurd h (by omega), fun _ => ⟨fits64 (by omega) (by omega), hK ?_⟩⟩
      intro j hj
      rcases Nat.lt_or_ge j i with h' | h'
      · exact hp j h'
      · obtain rfl : j = i := by omega
        unfold hardIn
        rw [find_range' _ _ _ (j + 1 + (pots.length - (j + 1))) (by omega) (by omega) hp2]
        simp
  · intro K hp
    dsimp only
    rw [br_decide]
    refine ⟨fun h => absurd h (by omega), fun _ => ?_⟩
    have e3 : hardP pots marks = none := by
      rw [hardP_eq, findSome_range _ _ pots.length (by omega) (fun j hj => by simp [hp j hj])]
      simp
    simp only [hardI, hardK, hardB, hardOf, e3] at hk
    exact hk
end Go.Abs.King
end

section
/- The king's functions keep their contracts: sixth part. -/
open Go.Proofs
set_option maxRecDepth 100000
set_option linter.unusedVariables false
namespace Go.Abs.King

theorem nb_f {b : Bool} (h : (!b) = false) : b = true := by cases b with
  | true => rfl
  | false => cases h
theorem nb_t {b : Bool} (h : (!b) = true) : b = false := by cases b with
  | true => cases h
  | false => rfl
theorem getD_lt (l : List Int) (i : Nat) (h : i < l.length) : l.getD i 0 = l[i] := by
  rw [List.getD_eq_getElem?_getD, List.getElem?_eq_getElem h]; rfl

theorem k85a (hG : Good Try.prog (envOf [(64, mkC [v64]), (65, mkC [v65])])) : v85a.Kept Try.prog 85 := by
  rintro ⟨l, m, pots, ⟨⟩⟩ hpre k hk
  change List (List Int) at l pots
  change Int at m
  refine aspec hmix hG Try.func85 tx85 (Eq.mpr (eq85a l m pots k) ?_)
  replace hk : k (rI (indexLen m l)) [] := hk
  have hl0 : l.length ≤ big60 := hpre.1
  simp only [big60] at hl0
  unfold vc85a
  refine Loop.upto (fun i => (l, m, pots, ((l.length : Nat) : Int), (i : Int), ())) (fun i => ∀ y ∈ l.take i, lenNot m y = false) l.length rfl (by simp) ?_ ?_
  · intro i K hi' hp hK
    dsimp only
    rw [br_decide]
    refine ⟨fun _ => ⟨⟨by omega, by omega⟩, ?_⟩, fun h => absurd hi' (by omega)⟩
    simp only [Int.toNat_natCast]
    refine ⟨hpre.2 _ (List.getElem_mem hi'), br_intro (fun h => ?_) (fun h => ⟨fits64 (by omega) (by omega), hK (take_all_succ _ _ _ hi' hp h)⟩)⟩
    have : indexLen m l = (i : Int) := indexOf_some _ l i hi' hp h
    rwa [this] at hk
  · intro K hp
    dsimp only
    rw [br_decide]
    refine ⟨fun h => absurd h (by omega), fun _ => ?_⟩
    rw [List.take_length] at hp
    have : indexLen m l = -1 := indexOf_none _ l hp
    rwa [this] at hk

theorem k85b (hG : Good Try.prog (envOf [(64, mkC [v64]), (65, mkC [v65])])) : v85b.Kept Try.prog 85 := by
  rintro ⟨l, ⟨⟩⟩ hpre k hk
  change List (List Int) at l
  refine aspec hmix hG Try.func85 tx85 (Eq.mpr (eq85b l k) ?_)
  replace hk : k (rI (indexMarks l)) [] := hk
  have hl0 : l.length ≤ big60 := hpre.1
  simp only [big60] at hl0
  unfold vc85b
  refine Loop.upto (fun i => (l, ((l.length : Nat) : Int), (i : Int), ())) (fun i => ∀ y ∈ l.take i, outMarks y = false) l.length rfl (by simp) ?_ ?_
  · intro i K hi' hp hK
    dsimp only
    rw [br_decide]
    refine ⟨fun _ => ⟨⟨by omega, by omega⟩, ?_⟩, fun h => absurd hi' (by omega)⟩
    simp only [Int.toNat_natCast]
    refine ⟨hpre.2 _ (List.getElem_mem hi'), br_intro (fun h => ?_) (fun h => ⟨fits64 (by omega) (by omega), hK (take_all_succ _ _ _ hi' hp h)⟩)⟩
    have : indexMarks l = (i : Int) := indexOf_some _ l i hi' hp h
    rwa [this] at hk
  · intro K hp
    dsimp only
    rw [br_decide]
    refine ⟨fun h => absurd h (by omega), fun _ => ?_⟩
    rw [List.take_length] at hp
    have : indexMarks l = -1 := indexOf_none _ l hp
    rwa [this] at hk

theorem k63a (hG : Good Try.prog (envOf [(85, mkC [v85a, v85b])])) : v63a.Kept Try.prog 63 := by
  rintro ⟨l, m, pots, ⟨⟩⟩ hpre k hk
  change List (List Int) at l pots
  change Int at m
  refine aspec hmix hG Try.func63 tx63 (Eq.mpr (eq63a l m pots k) ?_)
  replace hk : k (.bool (anyLen m l)) [] := hk
  unfold vc63a
  refine ⟨hpre, ?_⟩
  have : decide (indexLen m l ≥ 0) = anyLen m l := indexOf_ge _ l
  rwa [this]

theorem k63b (hG : Good Try.prog (envOf [(85, mkC [v85a, v85b])])) : v63b.Kept Try.prog 63 := by
  rintro ⟨l, ⟨⟩⟩ hpre k hk
  change List (List Int) at l
  refine aspec hmix hG Try.func63 tx63 (Eq.mpr (eq63b l k) ?_)
  replace hk : k (.bool (anyMarks l)) [] := hk
  unfold vc63b
  refine ⟨hpre, ?_⟩
  have : decide (indexMarks l ≥ 0) = anyMarks l := indexOf_ge _ l
  rwa [this]

theorem within_one (lo hi x : Int) : within lo hi [x] = decide (lo ≤ x ∧ x ≤ hi) := by simp [within]
theorem anyMarks_eq (l : List (List Int)) : anyMarks l = l.any (fun p => p.any (fun x => decide (x < 0 ∨ 4 < x))) := by
  unfold anyMarks
  congr 1
  funext p
  unfold outMarks within
  rw [List.not_all_eq_any_not]
  congr 1
  funext x
  rw [Bool.eq_iff_iff]
  simp only [Bool.not_eq_true', decide_eq_false_iff_not, decide_eq_true_eq]
  omega
theorem checkShelf_alt (m : Int) (pots : List (List Int)) : checkShelf m pots = if ¬ (1 ≤ m ∧ m ≤ 6) then 6 else if ¬ ((1 : Int) ≤ (pots.length : Int) ∧ (pots.length : Int) ≤ 8) then 6 else if anyLen m pots then 15 else if anyMarks pots then 3 else 0 := by
  unfold checkShelf
  rw [anyMarks_eq]
  by_cases h1 : 1 ≤ m ∧ m ≤ 6
  · by_cases h2 : (1 : Int) ≤ (pots.length : Int) ∧ (pots.length : Int) ≤ 8
    · have h3 : ¬ (m < 1 ∨ 6 < m ∨ pots.length < 1 ∨ 8 < pots.length) := by omega
      rw [if_neg h3, if_neg (not_not_intro h1), if_neg (not_not_intro h2)]
      rfl
    · have h3 : (m < 1 ∨ 6 < m ∨ pots.length < 1 ∨ 8 < pots.length) := by omega
      rw [if_pos h3, if_neg (not_not_intro h1), if_pos h2]
  · have h3 : (m < 1 ∨ 6 < m ∨ pots.length < 1 ∨ 8 < pots.length) := by omega
    rw [if_pos h3, if_pos h1]

theorem short_pots {pots : List (List Int)} (h : pots.length ≤ 14 ∧ ∀ p ∈ pots, p.length ≤ 12) : shortP pots :=
  ⟨Nat.le_trans h.1 (by decide), fun p hp => Nat.le_trans (h.2 p hp) (by decide)⟩

theorem k22 (hG : Good Try.prog (envOf [(56, mkC [v56]), (63, mkC [v63a, v63b])])) : v22.Kept Try.prog 22 := by
  rintro ⟨m, pots, ⟨⟩⟩ hpre k hk
  change List (List Int) at pots
  change Int at m
  refine aspec hmix hG Try.func22 tx22 (Eq.mpr (eq22 m pots k) ?_)
  replace hk : k (rI (checkShelf m pots)) [] := hk
  have hs := short_pots hpre
  rw [checkShelf_alt] at hk
  unfold vc22
  rw [within_one, within_one, br_bf, br_not]
  have one1 : ∀ x : Int, [x].length ≤ big60 := fun x => by show (1 : Nat) ≤ 1152921504606846976; omega
  refine ⟨one1 _, fun h => ⟨one1 _, fun h2 => ?_, fun h2 => ⟨hs, br_intro (fun h3 => ?_) (fun h3 => ⟨hs, br_intro (fun h4 => ?_) (fun h4 => ?_)⟩)⟩⟩, fun h => ?_⟩
  · rw [if_neg (not_not_intro (of_decide_eq_true (nb_f h))), if_pos (of_decide_eq_false h2)] at hk; exact hk
  · rw [if_neg (not_not_intro (of_decide_eq_true (nb_f h))), if_neg (not_not_intro (of_decide_eq_true h2)), if_pos h3] at hk; exact hk
  · rw [if_neg (not_not_intro (of_decide_eq_true (nb_f h))), if_neg (not_not_intro (of_decide_eq_true h2)), if_neg (by simp [h3]), if_pos h4] at hk; exact hk
  · rw [if_neg (not_not_intro (of_decide_eq_true (nb_f h))), if_neg (not_not_intro (of_decide_eq_true h2)), if_neg (by simp [h3]), if_neg (by simp [h4])] at hk; exact hk
  · rw [if_pos (of_decide_eq_false (nb_t h))] at hk; exact hk

theorem cs_vals (m : Int) (pots : List (List Int)) : checkShelf m pots = 0 ∨ checkShelf m pots = 6 ∨ checkShelf m pots = 15 ∨ checkShelf m pots = 3 := by
  unfold checkShelf
  by_cases h1 : m < 1 ∨ 6 < m ∨ pots.length < 1 ∨ 8 < pots.length
  · rw [if_pos h1]; simp
  · rw [if_neg h1]
    split
    · simp
    · split <;> simp
theorem errs_run {m : Int} {pots : List (List Int)} {f : Int → RTree} {ok : RTree} {k : AVal → List Cont → Prop} (h : (errs m pots f ok).run k) : (checkShelf m pots = 0 → ok.run k) ∧ (checkShelf m pots ≠ 0 → (f (checkShelf m pots)).run k) := by
  have h : br (csIs m pots 6) ((f 6).run k) (br (csIs m pots 15) ((f 15).run k) (br (csIs m pots 3) ((f 3).run k) (ok.run k))) := h
  simp only [csIs, br_decide] at h
  rcases cs_vals m pots with e | e | e | e
  · rw [e] at h ⊢
    exact ⟨fun _ => (((h.2 (by omega)).2 (by omega)).2 (by omega)), fun hn => absurd rfl hn⟩
  · rw [e] at h ⊢
    exact ⟨fun hn => absurd hn (by omega), fun _ => h.1 rfl⟩
  · rw [e] at h ⊢
    exact ⟨fun hn => absurd hn (by omega), fun _ => (h.2 (by omega)).1 rfl⟩
  · rw [e] at h ⊢
    exact ⟨fun hn => absurd hn (by omega), fun _ => ((h.2 (by omega)).2 (by omega)).1 rfl⟩
/-- The tests of an error that the conditions print. -/
theorem errs_br {m : Int} {pots : List (List Int)} {a b c ok : Prop} (h : checkShelf m pots = 0 → ok) (h6 : checkShelf m pots = 6 → a) (h15 : checkShelf m pots = 15 → b) (h3 : checkShelf m pots = 3 → c) : br (csIs m pots 6) a (br (csIs m pots 15) b (br (csIs m pots 3) c ok)) := by
  simp only [csIs, br_decide]
  refine ⟨h6, fun n6 => ⟨h15, fun n15 => ⟨h3, fun n3 => ?_⟩⟩⟩
  rcases cs_vals m pots with e | e | e | e
  · exact h e
  · exact absurd e n6
  · exact absurd e n15
  · exact absurd e n3

theorem k55 (hG : Good Try.prog (envOf [(22, mkC [v22]), (79, mkC [v79])])) : v55.Kept Try.prog 55 := by
  rintro ⟨m, pots, ⟨⟩⟩ hpre k hk
  change List (List Int) at pots
  change Int at m
  refine aspec hmix hG Try.func55 tx55 (Eq.mpr (eq55 m pots k) ?_)
  replace hk : (errs m pots (fun e => .leaf (.tup [.unk, rI e]) []) (.leaf (.tup [bench m pots, rI 0]) [])).run k := hk
  obtain ⟨h1, h2⟩ := errs_run hk
  unfold vc55
  rw [br_bne]
  exact ⟨hpre, h2, fun h => ⟨trivial, h1 h⟩⟩

/-- The next number that may come. -/
def nxt (marks : List Int) (i : Nat) : Int := if i = 0 then 0 else marks.getD (i - 1) 0 + 1
theorem rises_drop (l : List Int) (b a : Int) (i : Nat) (hi : i < l.length) : rises a (l.drop i) b = (decide (a ≤ l[i] ∧ l[i] < b) && rises (l[i] + 1) (l.drop (i + 1)) b) := by
  rw [List.drop_eq_getElem_cons hi]; rfl

theorem k18 (hG : Good Try.prog (envOf [(55, mkC [v55]), (56, mkC [v56]), (57, mkC [v57])])) : v18.Kept Try.prog 18 := by
  rintro ⟨m, pots, marks, ⟨⟩⟩ hpre k hk
  change List (List Int) at pots
  change List Int at marks
  change Int at m
  refine aspec hmix hG Try.func18 tx18 (Eq.mpr (eq18 m pots marks k) ?_)
  replace hk : k (.tup [rI (hardX m pots marks), rI (hardY m pots marks), rI (hardN m pots marks)]) [] := hk
  obtain ⟨hp, hl⟩ := hpre
  have hl' : marks.length ≤ big60 := hl
  simp only [big60] at hl'
  have herr : ∀ e : Int, e ≠ 0 → checkShelf m pots = e → k (.tup [rI 0, rI 0, rI e]) [] := by
    intro e he h
    have e1 : hardN m pots marks = e := by simp [hardN, h, he]
    simp only [hardX, hardY, e1, if_neg he] at hk
    exact hk
  unfold vc18
  refine ⟨hp, errs_br (fun h => ?_) (herr 6 (by omega)) (herr 15 (by omega)) (herr 3 (by omega))⟩
  obtain ⟨f1, f2, f3, f4⟩ := fine_spec h
  refine Loop.upto (fun i => (marks, m, pots, memoP (looksI m pots), nxt marks i, marks, ((marks.length : Nat) : Int), (i : Int), m, pots, ())) (fun i => 0 ≤ nxt marks i ∧ isList marks m = rises (nxt marks i) (marks.drop i) m) marks.length rfl ⟨Int.le_refl _, rfl⟩ ?_ ?_
  · rintro i K hi ⟨hn0, hpi⟩ hK
    dsimp only
    rw [br_decide]
    refine ⟨fun _ => ⟨⟨by omega, by omega⟩, ?_⟩, fun h => absurd hi (by omega)⟩
    simp only [Int.toNat_natCast]
    rw [within_one, br_not]
    rw [rises_drop _ _ _ _ hi] at hpi
    refine ⟨fits64 (by omega) (by omega), by show (1 : Nat) ≤ 1152921504606846976; omega, fun h2 => ?_, fun h2 => ?_⟩
    · have e : isList marks m = false := by
        rw [hpi]
        have : ¬ (nxt marks i ≤ marks[i] ∧ marks[i] < m) := by
          have := of_decide_eq_false h2
          omega
        rw [decide_eq_false this]; rfl
      have e1 : hardN m pots marks = 2 := by simp [hardN, h, e]
      simp only [hardX, hardY, e1] at hk
      exact hk
    · have h3 := of_decide_eq_true h2
      have en : nxt marks (i + 1) = marks[i] + 1 := by
        unfold nxt
        rw [if_neg (by omega), getD_lt _ _ (by omega)]
        simp
      rw [en] at hK
      rw [decide_eq_true (by omega : nxt marks i ≤ marks[i] ∧ marks[i] < m), Bool.true_and] at hpi
      exact ⟨fits64 (by omega) (by omega), fits64 (by omega) (by omega), hK ⟨by omega, hpi⟩⟩
  · rintro K ⟨hn0, hpi⟩
    dsimp only
    rw [List.drop_length] at hpi
    have hpi : isList marks m = true := hpi
    rw [br_decide]
    refine ⟨fun h => absurd h (by omega), fun _ => ⟨⟨h, hl, fun j hj => ((rises_iff m marks 0).1 hpi).1 j hj⟩, ?_⟩⟩
    rw [br_not]
    refine ⟨fun h3 => ?_, fun h3 => ?_⟩
    · have e : hardN m pots marks = 5 := by simp [hardN, h, hpi, h3]
      simp only [hardX, hardY, e] at hk
      exact hk
    · have e : hardN m pots marks = 0 := by simp [hardN, h, hpi, h3]
      simp only [hardX, hardY, e, if_true] at hk
      exact hk

/-! ### what was seen -/
theorem bitsOf_congr (n : Nat) (p q : Nat → Bool) (h : ∀ i, i < n → p i = q i) : bitsOf n p = bitsOf n q := by
  apply Nat.eq_of_testBit_eq
  intro i
  rw [bitsOf_test, bitsOf_test]
  by_cases hi : i < n
  · rw [h i hi]
  · simp [hi]
theorem bitsOf_all (n : Nat) : bitsOf n (fun _ => true) = 2 ^ n - 1 := by
  apply Nat.eq_of_testBit_eq
  intro i
  rw [bitsOf_test, Nat.testBit_two_pow_sub_one, Bool.and_true]
/-- The pots that agree with the first things seen. -/
def agreeUp (pots : List (List Int)) (seen : List Int) (i : Nat) : Nat := bitsOf pots.length (fun t => (List.range i).all (fun k => decide (seen.getD k 0 < 0 ∨ seen.getD k 0 = mk pots t k)))
theorem agreeUp_zero (pots : List (List Int)) (seen : List Int) : agreeUp pots seen 0 = 2 ^ pots.length - 1 := by
  unfold agreeUp
  rw [← bitsOf_all]
  rfl
theorem agreeUp_part (pots : List (List Int)) (seen : List Int) (i : Nat) (h : ¬ seen.getD i 0 < 0) : agreeUp pots seen (i + 1) = partOf pots (agreeUp pots seen i) i (seen.getD i 0) := by
  unfold agreeUp partOf
  refine bitsOf_congr _ _ _ (fun t ht => ?_)
  rw [bitsOf_test, List.range_succ, List.all_append]
  simp only [ht, decide_true, Bool.true_and, List.all_cons, List.all_nil, Bool.and_true]
  congr 1
  rw [Bool.eq_iff_iff]
  simp only [decide_eq_true_eq]
  constructor
  · rintro (h' | h')
    · exact absurd h' h
    · exact h'.symm
  · intro h'; exact Or.inr h'.symm
theorem agreeUp_same (pots : List (List Int)) (seen : List Int) (i : Nat) (h : seen.getD i 0 < 0) : agreeUp pots seen (i + 1) = agreeUp pots seen i := by
  unfold agreeUp
  refine bitsOf_congr _ _ _ (fun t ht => ?_)
  rw [List.range_succ, List.all_append]
  simp only [List.all_cons, List.all_nil, Bool.and_true, h, true_or, decide_true]
theorem se_vals (m : Int) (pots : List (List Int)) (seen : List Int) : seenErr m pots seen = 0 ∨ seenErr m pots seen = 6 ∨ seenErr m pots seen = 15 ∨ seenErr m pots seen = 3 := by
  unfold seenErr
  split
  · exact cs_vals m pots
  · split
    · simp
    · split <;> simp
theorem errsS_run {m : Int} {pots : List (List Int)} {seen : List Int} {f : Int → RTree} {ok : RTree} {k : AVal → List Cont → Prop} (h : (errsS m pots seen f ok).run k) : (seenErr m pots seen = 0 → ok.run k) ∧ (seenErr m pots seen ≠ 0 → (f (seenErr m pots seen)).run k) := by
  have h : br (seIs m pots seen 6) ((f 6).run k) (br (seIs m pots seen 15) ((f 15).run k) (br (seIs m pots seen 3) ((f 3).run k) (ok.run k))) := h
  simp only [seIs, br_decide] at h
  rcases se_vals m pots seen with e | e | e | e
  · rw [e] at h ⊢
    exact ⟨fun _ => (((h.2 (by omega)).2 (by omega)).2 (by omega)), fun hn => absurd rfl hn⟩
  · rw [e] at h ⊢
    exact ⟨fun hn => absurd hn (by omega), fun _ => h.1 rfl⟩
  · rw [e] at h ⊢
    exact ⟨fun hn => absurd hn (by omega), fun _ => (h.2 (by omega)).1 rfl⟩
  · rw [e] at h ⊢
    exact ⟨fun hn => absurd hn (by omega), fun _ => ((h.2 (by omega)).2 (by omega)).1 rfl⟩
theorem errsS_br {m : Int} {pots : List (List Int)} {seen : List Int} {a b c ok : Prop} (h : seenErr m pots seen = 0 → ok) (h6 : seenErr m pots seen = 6 → a) (h15 : seenErr m pots seen = 15 → b) (h3 : seenErr m pots seen = 3 → c) : br (seIs m pots seen 6) a (br (seIs m pots seen 15) b (br (seIs m pots seen 3) c ok)) := by
  simp only [seIs, br_decide]
  refine ⟨h6, fun n6 => ⟨h15, fun n15 => ⟨h3, fun n3 => ?_⟩⟩⟩
  rcases se_vals m pots seen with e | e | e | e
  · exact h e
  · exact absurd e n6
  · exact absurd e n15
  · exact absurd e n3
theorem se_cs {m : Int} {pots : List (List Int)} {seen : List Int} {e : Int} (he : e ≠ 0) (h : checkShelf m pots = e) : seenErr m pots seen = e := by
  unfold seenErr
  rw [h, if_pos he]
theorem se_ok {m : Int} {pots : List (List Int)} {seen : List Int} (h : seenErr m pots seen = 0) : checkShelf m pots = 0 ∧ (seen.length : Int) = m ∧ within (-1) 4 seen = true := by
  unfold seenErr at h
  by_cases h1 : checkShelf m pots = 0
  · rw [if_neg (not_not_intro h1)] at h
    by_cases h2 : (seen.length : Int) = m
    · rw [if_neg (not_not_intro h2)] at h
      cases h3 : within (-1) 4 seen with
      | true => exact ⟨h1, h2, rfl⟩
      | false => rw [h3] at h; simp at h
    · rw [if_pos h2] at h; omega
  · rw [if_pos h1] at h; exact absurd h h1

theorem k59 (hG : Good Try.prog (envOf [(55, mkC [v55]), (56, mkC [v56]), (76, mkC [v76]), (84, mkC [v84])])) : v59.Kept Try.prog 59 := by
  rintro ⟨m, pots, seen, ⟨⟩⟩ hpre k hk
  change List (List Int) at pots
  change List Int at seen
  change Int at m
  refine aspec hmix hG Try.func59 tx59 (Eq.mpr (eq59 m pots seen k) ?_)
  replace hk : (errsS m pots seen (fun e => .leaf (.tup [.unk, aS 0, rI e]) []) (.leaf (.tup [bench m pots, aS (agree pots m.toNat seen), rI 0]) [])).run k := hk
  obtain ⟨k0, k1⟩ := errsS_run hk
  have herr : ∀ e : Int, e ≠ 0 → seenErr m pots seen = e → k (.tup [.unk, aS 0, rI e]) [] := by
    intro e he h
    have := k1 (by rw [h]; exact he)
    rw [h] at this
    exact this
  obtain ⟨hp, hl⟩ := hpre
  have hl' : seen.length ≤ big60 := hl
  simp only [big60] at hl'
  unfold vc59
  refine ⟨hp, errs_br (fun h => ?_) (fun h => herr 6 (by omega) (se_cs (by omega) h)) (fun h => herr 15 (by omega) (se_cs (by omega) h)) (fun h => herr 3 (by omega) (se_cs (by omega) h))⟩
  obtain ⟨f1, f2, f3, f4⟩ := fine_spec h
  rw [br_bne, br_not]
  refine ⟨fun h2 => herr 15 (by omega) (by simp [seenErr, h, h2]), fun h2 => ⟨hl, fun h3 => herr 3 (by omega) (by simp [seenErr, h, h2, h3]), fun h3 => ⟨h, ?_⟩⟩⟩
  have hse : seenErr m pots seen = 0 := by simp [seenErr, h, h2, h3]
  have k0 := k0 hse
  replace k0 : k (.tup [bench m pots, aS (agree pots m.toNat seen), rI 0]) [] := k0
  have hall : ∀ x ∈ seen, -1 ≤ x ∧ x ≤ 4 := fun x hx => of_decide_eq_true (List.all_eq_true.1 h3 x hx)
  have hfin : agreeUp pots seen seen.length = agree pots m.toNat seen := by rw [show m.toNat = seen.length by omega]; rfl
  rw [← hfin] at k0
  refine Loop.upto (fun i => (m, pots, memoP (looksI m pots), seen, ((seen.length : Nat) : Int), (i : Int), (0 : Int), ((agreeUp pots seen i : Nat) : Int), ())) (fun i => True) seen.length (by rw [agreeUp_zero]; rfl) trivial ?_ ?_
  · intro i K hi _ hK
    have hK := hK trivial
    dsimp only
    rw [br_decide]
    refine ⟨fun _ => ⟨⟨by omega, by omega⟩, ?_⟩, fun h => absurd hi (by omega)⟩
    simp only [Int.toNat_natCast]
    have eg : seen.getD i 0 = seen[i] := getD_lt _ _ hi
    have hb := bitsOf_lt pots.length (fun t => (List.range i).all (fun k => decide (seen.getD k 0 < 0 ∨ seen.getD k 0 = mk pots t k)))
    rw [br_decide]
    refine ⟨fun h5 => ⟨⟨h, ⟨by show (0 : Int) ≤ ((agreeUp pots seen i : Nat) : Int); omega, ?_⟩, ⟨by show (0 : Int) ≤ (i : Int); omega, by show (i : Int) < m; omega⟩⟩, fits64 (by omega) (by omega), ?_⟩, fun h5 => ⟨fits64 (by omega) (by omega), ?_⟩⟩
    · show ((agreeUp pots seen i : Nat) : Int) < ((2 ^ pots.length : Nat) : Int)
      exact Int.ofNat_lt.2 hb
    · rw [agreeUp_part _ _ _ (by omega), eg] at hK
      exact hK
    · rw [agreeUp_same _ _ _ (by omega)] at hK
      exact hK
  · intro K _
    dsimp only
    rw [br_decide]
    exact ⟨fun h => absurd h (by omega), fun _ => k0⟩

theorem agree_lt (pots : List (List Int)) (m : Nat) (seen : List Int) : agree pots m seen < 2 ^ pots.length := bitsOf_lt _ _

theorem k20 (hG : Good Try.prog (envOf [(59, mkC [v59]), (60, mkC [v60])])) : v20.Kept Try.prog 20 := by
  rintro ⟨m, pots, seen, ⟨⟩⟩ hpre k hk
  change List (List Int) at pots
  change List Int at seen
  change Int at m
  refine aspec hmix hG Try.func20 tx20 (Eq.mpr (eq20 m pots seen k) ?_)
  replace hk : k (.tup [.reg 0 false, rI (seenErr m pots seen)]) [.sl (.int .i64) (seenL m pots seen)] := hk
  have herr : ∀ e : Int, e ≠ 0 → seenErr m pots seen = e → k (.tup [.reg 0 false, rI e]) [.sl (.int .i64) []] := by
    intro e he h
    rw [seenL, if_pos (by rw [h]; exact he), h] at hk
    exact hk
  unfold vc20
  refine ⟨hpre, errsS_br (fun h => ?_) (herr 6 (by omega)) (herr 15 (by omega)) (herr 3 (by omega))⟩
  rw [seenL, if_neg (not_not_intro h), h] at hk
  have hlt := agree_lt pots m.toNat seen
  obtain ⟨f1, f2, f3, f4⟩ := fine_spec (se_ok h).1
  have hp8 : 2 ^ pots.length ≤ 2 ^ 8 := Nat.pow_le_pow_right (by omega) (by omega)
  have h256 : (2 : Nat) ^ 8 = 256 := by decide
  refine ⟨⟨by show (0 : Int) ≤ ((agree pots m.toNat seen : Nat) : Int); omega, by show ((agree pots m.toNat seen : Nat) : Int) < 4611686018427387904; omega⟩, ?_⟩
  rw [Int.toNat_natCast, listed_cut _ _ _ hlt (by omega)]
  exact hk

theorem k21 (hG : Good Try.prog (envOf [(61, mkC [v61]), (62, mkC [v62]), (41, mkC [v41])])) : v21.Kept Try.prog 21 := by
  rintro ⟨m, pots, seen, ⟨⟩⟩ hpre k hk
  change List (List Int) at pots
  change List Int at seen
  change Int at m
  refine aspec hmix hG Try.func21 tx21 (Eq.mpr (eq21 m pots seen k) ?_)
  replace hk : k (.tup [.reg 0 false, rI (seenErr m pots seen)]) [.sl (.int .i64) (seenL m pots seen)] := hk
  unfold vc21
  rw [br_bne]
  refine ⟨hpre, fun h => ⟨hpre, ?_⟩, fun h => ⟨h, ?_⟩⟩
  · rw [seenL, if_pos h] at hk; exact hk
  · rw [seenL, if_neg (not_not_intro h), h] at hk
    have hlt := agree_lt pots m.toNat seen
    obtain ⟨f1, f2, f3, f4⟩ := fine_spec (se_ok h).1
    have hp8 : 2 ^ pots.length ≤ 2 ^ 8 := Nat.pow_le_pow_right (by omega) (by omega)
    have h256 : (2 : Nat) ^ 8 = 256 := by decide
    refine ⟨⟨⟨by show (0 : Int) ≤ ((agree pots m.toNat seen : Nat) : Int); omega, by show ((agree pots m.toNat seen : Nat) : Int) < 4611686018427387904; omega⟩, by show (0 : Int) ≤ ((pots.length : Nat) : Int); omega, by show ((pots.length : Nat) : Int) ≤ 40; omega⟩, ?_⟩
    exact hk
end Go.Abs.King
end

section
/- Conditions and their equations, printed by a program: third part. -/
open Go.Proofs
set_option maxRecDepth 100000
set_option linter.unusedVariables false
namespace Go.Abs.King
def vc67 (a b : List Int) (k : AVal → List Cont → Prop) : Prop :=
  Go.Abs.Loop (σ := ((List Int) × ((List Int) × (Int × Unit)))) (fun K3 x3 =>
    br (((decide (x3.2.2.1 < (((List.length x3.1) : Nat) : Int))) == Bool.true))
     (br ((decide (x3.2.2.1 < (((List.length x3.2.1) : Nat) : Int))))
      (∃ h5 : (((0 : Int) ≤ x3.2.2.1) ∧ ((Int.toNat x3.2.2.1) < (List.length x3.1))),
      ∃ h6 : (((0 : Int) ≤ x3.2.2.1) ∧ ((Int.toNat x3.2.2.1) < (List.length x3.2.1))),
      br (((x3.1[(Int.toNat x3.2.2.1)]'h5.2) != (x3.2.1[(Int.toNat x3.2.2.1)]'h6.2)))
       (∃ h7 : (((0 : Int) ≤ x3.2.2.1) ∧ ((Int.toNat x3.2.2.1) < (List.length x3.1))),
       ∃ h8 : (((0 : Int) ≤ x3.2.2.1) ∧ ((Int.toNat x3.2.2.1) < (List.length x3.2.1))),
       (k (Go.Abs.AVal.bool (decide ((x3.1[(Int.toNat x3.2.2.1)]'h7.2) < (x3.2.1[(Int.toNat x3.2.2.1)]'h8.2)))) []))
       ((Go.Abs.fitsK Go.IntKind.i64 (x3.2.2.1 + (1 : Int))) ∧
       (K3 (x3.1, (x3.2.1, ((x3.2.2.1 + (1 : Int)), ()))))))
      ((k (Go.Abs.AVal.bool Bool.false) [])))
     ((k (Go.Abs.AVal.bool Bool.false) []))) ((a, (b, ((0 : Int), ()))))
theorem eq67 (a b : List Int) (k : AVal → List Cont → Prop) : awpF (envOf []) Try.prog kt 67 false Try.f67 (v67.S.enc Unit (a, b, ())).1 [] k = vc67 a b k := by kernel_rfl
theorem tx67 : (Try.f67.body.map Code.textsOk).getD true = true := by kernel_rfl

def vc98 (x : Int) (k : AVal → List Cont → Prop) : Prop :=
  ((0 : Int) ≤ (1 : Int)) ∧
  (Go.Abs.fitsK Go.IntKind.u64 ((Go.Abs.bitsA Go.BinOp.and Go.IntKind.u64 (Go.Abs.shrA Go.IntKind.u64 x (1 : Int)) (6148914691236517205 : Int)) + (Go.Abs.bitsA Go.BinOp.and Go.IntKind.u64 x (6148914691236517205 : Int)))) ∧
  ((0 : Int) ≤ (2 : Int)) ∧
  (Go.Abs.fitsK Go.IntKind.u64 ((Go.Abs.bitsA Go.BinOp.and Go.IntKind.u64 (Go.Abs.shrA Go.IntKind.u64 ((Go.Abs.bitsA Go.BinOp.and Go.IntKind.u64 (Go.Abs.shrA Go.IntKind.u64 x (1 : Int)) (6148914691236517205 : Int)) + (Go.Abs.bitsA Go.BinOp.and Go.IntKind.u64 x (6148914691236517205 : Int))) (2 : Int)) (3689348814741910323 : Int)) + (Go.Abs.bitsA Go.BinOp.and Go.IntKind.u64 ((Go.Abs.bitsA Go.BinOp.and Go.IntKind.u64 (Go.Abs.shrA Go.IntKind.u64 x (1 : Int)) (6148914691236517205 : Int)) + (Go.Abs.bitsA Go.BinOp.and Go.IntKind.u64 x (6148914691236517205 : Int))) (3689348814741910323 : Int)))) ∧
  ((0 : Int) ≤ (4 : Int)) ∧
  (Go.Abs.fitsK Go.IntKind.u64 ((Go.Abs.shrA Go.IntKind.u64 ((Go.Abs.bitsA Go.BinOp.and Go.IntKind.u64 (Go.Abs.shrA Go.IntKind.u64 ((Go.Abs.bitsA Go.BinOp.and Go.IntKind.u64 (Go.Abs.shrA Go.IntKind.u64 x (1 : Int)) (6148914691236517205 : Int)) + (Go.Abs.bitsA Go.BinOp.and Go.IntKind.u64 x (6148914691236517205 : Int))) (2 : Int)) (3689348814741910323 : Int)) + (Go.Abs.bitsA Go.BinOp.and Go.IntKind.u64 ((Go.Abs.bitsA Go.BinOp.and Go.IntKind.u64 (Go.Abs.shrA Go.IntKind.u64 x (1 : Int)) (6148914691236517205 : Int)) + (Go.Abs.bitsA Go.BinOp.and Go.IntKind.u64 x (6148914691236517205 : Int))) (3689348814741910323 : Int))) (4 : Int)) + ((Go.Abs.bitsA Go.BinOp.and Go.IntKind.u64 (Go.Abs.shrA Go.IntKind.u64 ((Go.Abs.bitsA Go.BinOp.and Go.IntKind.u64 (Go.Abs.shrA Go.IntKind.u64 x (1 : Int)) (6148914691236517205 : Int)) + (Go.Abs.bitsA Go.BinOp.and Go.IntKind.u64 x (6148914691236517205 : Int))) (2 : Int)) (3689348814741910323 : Int)) + (Go.Abs.bitsA Go.BinOp.and Go.IntKind.u64 ((Go.Abs.bitsA Go.BinOp.and Go.IntKind.u64 (Go.Abs.shrA Go.IntKind.u64 x (1 : Int)) (6148914691236517205 : Int)) + (Go.Abs.bitsA Go.BinOp.and Go.IntKind.u64 x (6148914691236517205 : Int))) (3689348814741910323 : Int))))) ∧
  ((0 : Int) ≤ (8 : Int)) ∧
  (Go.Abs.fitsK Go.IntKind.u64 ((Go.Abs.bitsA Go.BinOp.and Go.IntKind.u64 ((Go.Abs.shrA Go.IntKind.u64 ((Go.Abs.bitsA Go.BinOp.and Go.IntKind.u64 (Go.Abs.shrA Go.IntKind.u64 ((Go.Abs.bitsA Go.BinOp.and Go.IntKind.u64 (Go.Abs.shrA Go.IntKind.u64 x (1 : Int)) (6148914691236517205 : Int)) + (Go.Abs.bitsA Go.BinOp.and Go.IntKind.u64 x (6148914691236517205 : Int))) (2 : Int)) (3689348814741910323 : Int)) + (Go.Abs.bitsA Go.BinOp.and Go.IntKind.u64 ((Go.Abs.bitsA Go.BinOp.and Go.IntKind.u64 (Go.Abs.shrA Go.IntKind.u64 x (1 : Int)) (6148914691236517205 : Int)) + (Go.Abs.bitsA Go.BinOp.and Go.IntKind.u64 x (6148914691236517205 : Int))) (3689348814741910323 : Int))) (4 : Int)) + ((Go.Abs.bitsA Go.BinOp.and Go.IntKind.u64 (Go.Abs.shrA Go.IntKind.u64 ((Go.Abs.bitsA Go.BinOp.and Go.IntKind.u64 (Go.Abs.shrA Go.IntKind.u64 x (1 : Int)) (6148914691236517205 : Int)) + (Go.Abs.bitsA Go.BinOp.and Go.IntKind.u64 x (6148914691236517205 : Int))) (2 : Int)) (3689348814741910323 : Int)) + (Go.Abs.bitsA Go.BinOp.and Go.IntKind.u64 ((Go.Abs.bitsA Go.BinOp.and Go.IntKind.u64 (Go.Abs.shrA Go.IntKind.u64 x (1 : Int)) (6148914691236517205 : Int)) + (Go.Abs.bitsA Go.BinOp.and Go.IntKind.u64 x (6148914691236517205 : Int))) (3689348814741910323 : Int)))) (1085102592571150095 : Int)) + (Go.Abs.shrA Go.IntKind.u64 (Go.Abs.bitsA Go.BinOp.and Go.IntKind.u64 ((Go.Abs.shrA Go.IntKind.u64 ((Go.Abs.bitsA Go.BinOp.and Go.IntKind.u64 (Go.Abs.shrA Go.IntKind.u64 ((Go.Abs.bitsA Go.BinOp.and Go.IntKind.u64 (Go.Abs.shrA Go.IntKind.u64 x (1 : Int)) (6148914691236517205 : Int)) + (Go.Abs.bitsA Go.BinOp.and Go.IntKind.u64 x (6148914691236517205 : Int))) (2 : Int)) (3689348814741910323 : Int)) + (Go.Abs.bitsA Go.BinOp.and Go.IntKind.u64 ((Go.Abs.bitsA Go.BinOp.and Go.IntKind.u64 (Go.Abs.shrA Go.IntKind.u64 x (1 : Int)) (6148914691236517205 : Int)) + (Go.Abs.bitsA Go.BinOp.and Go.IntKind.u64 x (6148914691236517205 : Int))) (3689348814741910323 : Int))) (4 : Int)) + ((Go.Abs.bitsA Go.BinOp.and Go.IntKind.u64 (Go.Abs.shrA Go.IntKind.u64 ((Go.Abs.bitsA Go.BinOp.and Go.IntKind.u64 (Go.Abs.shrA Go.IntKind.u64 x (1 : Int)) (6148914691236517205 : Int)) + (Go.Abs.bitsA Go.BinOp.and Go.IntKind.u64 x (6148914691236517205 : Int))) (2 : Int)) (3689348814741910323 : Int)) + (Go.Abs.bitsA Go.BinOp.and Go.IntKind.u64 ((Go.Abs.bitsA Go.BinOp.and Go.IntKind.u64 (Go.Abs.shrA Go.IntKind.u64 x (1 : Int)) (6148914691236517205 : Int)) + (Go.Abs.bitsA Go.BinOp.and Go.IntKind.u64 x (6148914691236517205 : Int))) (3689348814741910323 : Int)))) (1085102592571150095 : Int)) (8 : Int)))) ∧
  ((0 : Int) ≤ (16 : Int)) ∧
  (Go.Abs.fitsK Go.IntKind.u64 (((Go.Abs.bitsA Go.BinOp.and Go.IntKind.u64 ((Go.Abs.shrA Go.IntKind.u64 ((Go.Abs.bitsA Go.BinOp.and Go.IntKind.u64 (Go.Abs.shrA Go.IntKind.u64 ((Go.Abs.bitsA Go.BinOp.and Go.IntKind.u64 (Go.Abs.shrA Go.IntKind.u64 x (1 : Int)) (6148914691236517205 : Int)) + (Go.Abs.bitsA Go.BinOp.and Go.IntKind.u64 x (6148914691236517205 : Int))) (2 : Int)) (3689348814741910323 : Int)) + (Go.Abs.bitsA Go.BinOp.and Go.IntKind.u64 ((Go.Abs.bitsA Go.BinOp.and Go.IntKind.u64 (Go.Abs.shrA Go.IntKind.u64 x (1 : Int)) (6148914691236517205 : Int)) + (Go.Abs.bitsA Go.BinOp.and Go.IntKind.u64 x (6148914691236517205 : Int))) (3689348814741910323 : Int))) (4 : Int)) + ((Go.Abs.bitsA Go.BinOp.and Go.IntKind.u64 (Go.Abs.shrA Go.IntKind.u64 ((Go.Abs.bitsA Go.BinOp.and Go.IntKind.u64 (Go.Abs.shrA Go.IntKind.u64 x (1 : Int)) (6148914691236517205 : Int)) + (Go.Abs.bitsA Go.BinOp.and Go.IntKind.u64 x (6148914691236517205 : Int))) (2 : Int)) (3689348814741910323 : Int)) + (Go.Abs.bitsA Go.BinOp.and Go.IntKind.u64 ((Go.Abs.bitsA Go.BinOp.and Go.IntKind.u64 (Go.Abs.shrA Go.IntKind.u64 x (1 : Int)) (6148914691236517205 : Int)) + (Go.Abs.bitsA Go.BinOp.and Go.IntKind.u64 x (6148914691236517205 : Int))) (3689348814741910323 : Int)))) (1085102592571150095 : Int)) + (Go.Abs.shrA Go.IntKind.u64 (Go.Abs.bitsA Go.BinOp.and Go.IntKind.u64 ((Go.Abs.shrA Go.IntKind.u64 ((Go.Abs.bitsA Go.BinOp.and Go.IntKind.u64 (Go.Abs.shrA Go.IntKind.u64 ((Go.Abs.bitsA Go.BinOp.and Go.IntKind.u64 (Go.Abs.shrA Go.IntKind.u64 x (1 : Int)) (6148914691236517205 : Int)) + (Go.Abs.bitsA Go.BinOp.and Go.IntKind.u64 x (6148914691236517205 : Int))) (2 : Int)) (3689348814741910323 : Int)) + (Go.Abs.bitsA Go.BinOp.and Go.IntKind.u64 ((Go.Abs.bitsA Go.BinOp.and Go.IntKind.u64 (Go.Abs.shrA Go.IntKind.u64 x (1 : Int)) (6148914691236517205 : Int)) + (Go.Abs.bitsA Go.BinOp.and Go.IntKind.u64 x (6148914691236517205 : Int))) (3689348814741910323 : Int))) (4 : Int)) + ((Go.Abs.bitsA Go.BinOp.and Go.IntKind.u64 (Go.Abs.shrA Go.IntKind.u64 ((Go.Abs.bitsA Go.BinOp.and Go.IntKind.u64 (Go.Abs.shrA Go.IntKind.u64 x (1 : Int)) (6148914691236517205 : Int)) + (Go.Abs.bitsA Go.BinOp.and Go.IntKind.u64 x (6148914691236517205 : Int))) (2 : Int)) (3689348814741910323 : Int)) + (Go.Abs.bitsA Go.BinOp.and Go.IntKind.u64 ((Go.Abs.bitsA Go.BinOp.and Go.IntKind.u64 (Go.Abs.shrA Go.IntKind.u64 x (1 : Int)) (6148914691236517205 : Int)) + (Go.Abs.bitsA Go.BinOp.and Go.IntKind.u64 x (6148914691236517205 : Int))) (3689348814741910323 : Int)))) (1085102592571150095 : Int)) (8 : Int))) + (Go.Abs.shrA Go.IntKind.u64 ((Go.Abs.bitsA Go.BinOp.and Go.IntKind.u64 ((Go.Abs.shrA Go.IntKind.u64 ((Go.Abs.bitsA Go.BinOp.and Go.IntKind.u64 (Go.Abs.shrA Go.IntKind.u64 ((Go.Abs.bitsA Go.BinOp.and Go.IntKind.u64 (Go.Abs.shrA Go.IntKind.u64 x (1 : Int)) (6148914691236517205 : Int)) + (Go.Abs.bitsA Go.BinOp.and Go.IntKind.u64 x (6148914691236517205 : Int))) (2 : Int)) (3689348814741910323 : Int)) + (Go.Abs.bitsA Go.BinOp.and Go.IntKind.u64 ((Go.Abs.bitsA Go.BinOp.and Go.IntKind.u64 (Go.Abs.shrA Go.IntKind.u64 x (1 : Int)) (6148914691236517205 : Int)) + (Go.Abs.bitsA Go.BinOp.and Go.IntKind.u64 x (6148914691236517205 : Int))) (3689348814741910323 : Int))) (4 : Int)) + ((Go.Abs.bitsA Go.BinOp.and Go.IntKind.u64 (Go.Abs.shrA Go.IntKind.u64 ((Go.Abs.bitsA Go.BinOp.and Go.IntKind.u64 (Go.Abs.shrA Go.IntKind.u64 x (1 : Int)) (6148914691236517205 : Int)) + (Go.Abs.bitsA Go.BinOp.and Go.IntKind.u64 x (6148914691236517205 : Int))) (2 : Int)) (3689348814741910323 : Int)) + (Go.Abs.bitsA Go.BinOp.and Go.IntKind.u64 ((Go.Abs.bitsA Go.BinOp.and Go.IntKind.u64 (Go.Abs.shrA Go.IntKind.u64 x (1 : Int)) (6148914691236517205 : Int)) + (Go.Abs.bitsA Go.BinOp.and Go.IntKind.u64 x (6148914691236517205 : Int))) (3689348814741910323 : Int)))) (1085102592571150095 : Int)) + (Go.Abs.shrA Go.IntKind.u64 (Go.Abs.bitsA Go.BinOp.and Go.IntKind.u64 ((Go.Abs.shrA Go.IntKind.u64 ((Go.Abs.bitsA Go.BinOp.and Go.IntKind.u64 (Go.Abs.shrA Go.IntKind.u64 ((Go.Abs.bitsA Go.BinOp.and Go.IntKind.u64 (Go.Abs.shrA Go.IntKind.u64 x (1 : Int)) (6148914691236517205 : Int)) + (Go.Abs.bitsA Go.BinOp.and Go.IntKind.u64 x (6148914691236517205 : Int))) (2 : Int)) (3689348814741910323 : Int)) + (Go.Abs.bitsA Go.BinOp.and Go.IntKind.u64 ((Go.Abs.bitsA Go.BinOp.and Go.IntKind.u64 (Go.Abs.shrA Go.IntKind.u64 x (1 : Int)) (6148914691236517205 : Int)) + (Go.Abs.bitsA Go.BinOp.and Go.IntKind.u64 x (6148914691236517205 : Int))) (3689348814741910323 : Int))) (4 : Int)) + ((Go.Abs.bitsA Go.BinOp.and Go.IntKind.u64 (Go.Abs.shrA Go.IntKind.u64 ((Go.Abs.bitsA Go.BinOp.and Go.IntKind.u64 (Go.Abs.shrA Go.IntKind.u64 x (1 : Int)) (6148914691236517205 : Int)) + (Go.Abs.bitsA Go.BinOp.and Go.IntKind.u64 x (6148914691236517205 : Int))) (2 : Int)) (3689348814741910323 : Int)) + (Go.Abs.bitsA Go.BinOp.and Go.IntKind.u64 ((Go.Abs.bitsA Go.BinOp.and Go.IntKind.u64 (Go.Abs.shrA Go.IntKind.u64 x (1 : Int)) (6148914691236517205 : Int)) + (Go.Abs.bitsA Go.BinOp.and Go.IntKind.u64 x (6148914691236517205 : Int))) (3689348814741910323 : Int)))) (1085102592571150095 : Int)) (8 : Int))) (16 : Int)))) ∧
  ((0 : Int) ≤ (32 : Int)) ∧
  (Go.Abs.fitsK Go.IntKind.u64 ((((Go.Abs.bitsA Go.BinOp.and Go.IntKind.u64 ((Go.Abs.shrA Go.IntKind.u64 ((Go.Abs.bitsA Go.BinOp.and Go.IntKind.u64 (Go.Abs.shrA Go.IntKind.u64 ((Go.Abs.bitsA Go.BinOp.and Go.IntKind.u64 (Go.Abs.shrA Go.IntKind.u64 x (1 : Int)) (6148914691236517205 : Int)) + (Go.Abs.bitsA Go.BinOp.and Go.IntKind.u64 x (6148914691236517205 : Int))) (2 : Int)) (3689348814741910323 : Int)) + (Go.Abs.bitsA Go.BinOp.and Go.IntKind.u64 ((Go.Abs.bitsA Go.BinOp.and Go.IntKind.u64 (Go.Abs.shrA Go.IntKind.u64 x (1 : Int)) (6148914691236517205 : Int)) + (Go.Abs.bitsA Go.BinOp.and Go.IntKind.u64 x (6148914691236517205 : Int))) (3689348814741910323 : Int))) (4 : Int)) + ((Go.Abs.bitsA Go.BinOp.and Go.IntKind.u64 (Go.Abs.shrA Go.IntKind.u64 ((Go.Abs.bitsA Go.BinOp.and Go.IntKind.u64 (Go.Abs.shrA Go.IntKind.u64 x (1 : Int)) (6148914691236517205 : Int)) + (Go.Abs.bitsA Go.BinOp.and Go.IntKind.u64 x (6148914691236517205 : Int))) (2 : Int)) (3689348814741910323 : Int)) + (Go.Abs.bitsA Go.BinOp.and Go.IntKind.u64 ((Go.Abs.bitsA Go.BinOp.and Go.IntKind.u64 (Go.Abs.shrA Go.IntKind.u64 x (1 : Int)) (6148914691236517205 : Int)) + (Go.Abs.bitsA Go.BinOp.and Go.IntKind.u64 x (6148914691236517205 : Int))) (3689348814741910323 : Int)))) (1085102592571150095 : Int)) + (Go.Abs.shrA Go.IntKind.u64 (Go.Abs.bitsA Go.BinOp.and Go.IntKind.u64 ((Go.Abs.shrA Go.IntKind.u64 ((Go.Abs.bitsA Go.BinOp.and Go.IntKind.u64 (Go.Abs.shrA Go.IntKind.u64 ((Go.Abs.bitsA Go.BinOp.and Go.IntKind.u64 (Go.Abs.shrA Go.IntKind.u64 x (1 : Int)) (6148914691236517205 : Int)) + (Go.Abs.bitsA Go.BinOp.and Go.IntKind.u64 x (6148914691236517205 : Int))) (2 : Int)) (3689348814741910323 : Int)) + (Go.Abs.bitsA Go.BinOp.and Go.IntKind.u64 ((Go.Abs.bitsA Go.BinOp.and Go.IntKind.u64 (Go.Abs.shrA Go.IntKind.u64 x (1 : Int)) (6148914691236517205 : Int)) + (Go.Abs.bitsA Go.BinOp.and Go.IntKind.u64 x (6148914691236517205 : Int))) (3689348814741910323 : Int))) (4 : Int)) + ((Go.Abs.bitsA Go.BinOp.and Go.IntKind.u64 (Go.Abs.shrA Go.IntKind.u64 ((Go.Abs.bitsA Go.BinOp.and Go.IntKind.u64 (Go.Abs.shrA Go.IntKind.u64 x (1 : Int)) (6148914691236517205 : Int)) + (Go.Abs.bitsA Go.BinOp.and Go.IntKind.u64 x (6148914691236517205 : Int))) (2 : Int)) (3689348814741910323 : Int)) + (Go.Abs.bitsA Go.BinOp.and Go.IntKind.u64 ((Go.Abs.bitsA Go.BinOp.and Go.IntKind.u64 (Go.Abs.shrA Go.IntKind.u64 x (1 : Int)) (6148914691236517205 : Int)) + (Go.Abs.bitsA Go.BinOp.and Go.IntKind.u64 x (6148914691236517205 : Int))) (3689348814741910323 : Int)))) (1085102592571150095 : Int)) (8 : Int))) + (Go.Abs.shrA Go.IntKind.u64 ((Go.Abs.bitsA Go.BinOp.and Go.IntKind.u64 ((Go.Abs.shrA Go.IntKind.u64 ((Go.Abs.bitsA Go.BinOp.and Go.IntKind.u64 (Go.Abs.shrA Go.IntKind.u64 ((Go.Abs.bitsA Go.BinOp.and Go.IntKind.u64 (Go.Abs.shrA Go.IntKind.u64 x (1 : Int)) (6148914691236517205 : Int)) + (Go.Abs.bitsA Go.BinOp.and Go.IntKind.u64 x (6148914691236517205 : Int))) (2 : Int)) (3689348814741910323 : Int)) + (Go.Abs.bitsA Go.BinOp.and Go.IntKind.u64 ((Go.Abs.bitsA Go.BinOp.and Go.IntKind.u64 (Go.Abs.shrA Go.IntKind.u64 x (1 : Int)) (6148914691236517205 : Int)) + (Go.Abs.bitsA Go.BinOp.and Go.IntKind.u64 x (6148914691236517205 : Int))) (3689348814741910323 : Int))) (4 : Int)) + ((Go.Abs.bitsA Go.BinOp.and Go.IntKind.u64 (Go.Abs.shrA Go.IntKind.u64 ((Go.Abs.bitsA Go.BinOp.and Go.IntKind.u64 (Go.Abs.shrA Go.IntKind.u64 x (1 : Int)) (6148914691236517205 : Int)) + (Go.Abs.bitsA Go.BinOp.and Go.IntKind.u64 x (6148914691236517205 : Int))) (2 : Int)) (3689348814741910323 : Int)) + (Go.Abs.bitsA Go.BinOp.and Go.IntKind.u64 ((Go.Abs.bitsA Go.BinOp.and Go.IntKind.u64 (Go.Abs.shrA Go.IntKind.u64 x (1 : Int)) (6148914691236517205 : Int)) + (Go.Abs.bitsA Go.BinOp.and Go.IntKind.u64 x (6148914691236517205 : Int))) (3689348814741910323 : Int)))) (1085102592571150095 : Int)) + (Go.Abs.shrA Go.IntKind.u64 (Go.Abs.bitsA Go.BinOp.and Go.IntKind.u64 ((Go.Abs.shrA Go.IntKind.u64 ((Go.Abs.bitsA Go.BinOp.and Go.IntKind.u64 (Go.Abs.shrA Go.IntKind.u64 ((Go.Abs.bitsA Go.BinOp.and Go.IntKind.u64 (Go.Abs.shrA Go.IntKind.u64 x (1 : Int)) (6148914691236517205 : Int)) + (Go.Abs.bitsA Go.BinOp.and Go.IntKind.u64 x (6148914691236517205 : Int))) (2 : Int)) (3689348814741910323 : Int)) + (Go.Abs.bitsA Go.BinOp.and Go.IntKind.u64 ((Go.Abs.bitsA Go.BinOp.and Go.IntKind.u64 (Go.Abs.shrA Go.IntKind.u64 x (1 : Int)) (6148914691236517205 : Int)) + (Go.Abs.bitsA Go.BinOp.and Go.IntKind.u64 x (6148914691236517205 : Int))) (3689348814741910323 : Int))) (4 : Int)) + ((Go.Abs.bitsA Go.BinOp.and Go.IntKind.u64 (Go.Abs.shrA Go.IntKind.u64 ((Go.Abs.bitsA Go.BinOp.and Go.IntKind.u64 (Go.Abs.shrA Go.IntKind.u64 x (1 : Int)) (6148914691236517205 : Int)) + (Go.Abs.bitsA Go.BinOp.and Go.IntKind.u64 x (6148914691236517205 : Int))) (2 : Int)) (3689348814741910323 : Int)) + (Go.Abs.bitsA Go.BinOp.and Go.IntKind.u64 ((Go.Abs.bitsA Go.BinOp.and Go.IntKind.u64 (Go.Abs.shrA Go.IntKind.u64 x (1 : Int)) (6148914691236517205 : Int)) + (Go.Abs.bitsA Go.BinOp.and Go.IntKind.u64 x (6148914691236517205 : Int))) (3689348814741910323 : Int)))) (1085102592571150095 : Int)) (8 : Int))) (16 : Int))) + (Go.Abs.shrA Go.IntKind.u64 (((Go.Abs.bitsA Go.BinOp.and Go.IntKind.u64 ((Go.Abs.shrA Go.IntKind.u64 ((Go.Abs.bitsA Go.BinOp.and Go.IntKind.u64 (Go.Abs.shrA Go.IntKind.u64 ((Go.Abs.bitsA Go.BinOp.and Go.IntKind.u64 (Go.Abs.shrA Go.IntKind.u64 x (1 : Int)) (6148914691236517205 : Int)) + (Go.Abs.bitsA Go.BinOp.and Go.IntKind.u64 x (6148914691236517205 : Int))) (2 : Int)) (3689348814741910323 : Int)) + (Go.Abs.bitsA Go.BinOp.and Go.IntKind.u64 ((Go.Abs.bitsA Go.BinOp.and Go.IntKind.u64 (Go.Abs.shrA Go.IntKind.u64 x (1 : Int)) (6148914691236517205 : Int)) + (Go.Abs.bitsA Go.BinOp.and Go.IntKind.u64 x (6148914691236517205 : Int))) (3689348814741910323 : Int))) (4 : Int)) + ((Go.Abs.bitsA Go.BinOp.and Go.IntKind.u64 (Go.Abs.shrA Go.IntKind.u64 ((Go.Abs.bitsA Go.BinOp.and Go.IntKind.u64 (Go.Abs.shrA Go.IntKind.u64 x (1 : Int)) (6148914691236517205 : Int)) + (Go.Abs.bitsA Go.BinOp.and Go.IntKind.u64 x (6148914691236517205 : Int))) (2 : Int)) (3689348814741910323 : Int)) + (Go.Abs.bitsA Go.BinOp.and Go.IntKind.u64 ((Go.Abs.bitsA Go.BinOp.and Go.IntKind.u64 (Go.Abs.shrA Go.IntKind.u64 x (1 : Int)) (6148914691236517205 : Int)) + (Go.Abs.bitsA Go.BinOp.and Go.IntKind.u64 x (6148914691236517205 : Int))) (3689348814741910323 : Int)))) (1085102592571150095 : Int)) + (Go.Abs.shrA Go.IntKind.u64 (Go.Abs.bitsA Go.BinOp.and Go.IntKind.u64 ((Go.Abs.shrA Go.IntKind.u64 ((Go.Abs.bitsA Go.BinOp.and Go.IntKind.u64 (Go.Abs.shrA Go.IntKind.u64 ((Go.Abs.bitsA Go.BinOp.and Go.IntKind.u64 (Go.Abs.shrA Go.IntKind.u64 x (1 : Int)) (6148914691236517205 : Int)) + (Go.Abs.bitsA Go.BinOp.and Go.IntKind.u64 x (6148914691236517205 : Int))) (2 : Int)) (3689348814741910323 : Int)) + (Go.Abs.bitsA Go.BinOp.and Go.IntKind.u64 ((Go.Abs.bitsA Go.BinOp.and Go.IntKind.u64 (Go.Abs.shrA Go.IntKind.u64 x (1 : Int)) (6148914691236517205 : Int)) + (Go.Abs.bitsA Go.BinOp.and Go.IntKind.u64 x (6148914691236517205 : Int))) (3689348814741910323 : Int))) (4 : Int)) + ((Go.Abs.bitsA Go.BinOp.and Go.IntKind.u64 (Go.Abs.shrA Go.IntKind.u64 ((Go.Abs.bitsA Go.BinOp.and Go.IntKind.u64 (Go.Abs.shrA Go.IntKind.u64 x (1 : Int)) (6148914691236517205 : Int)) + (Go.Abs.bitsA Go.BinOp.and Go.IntKind.u64 x (6148914691236517205 : Int))) (2 : Int)) (3689348814741910323 : Int)) + (Go.Abs.bitsA Go.BinOp.and Go.IntKind.u64 ((Go.Abs.bitsA Go.BinOp.and Go.IntKind.u64 (Go.Abs.shrA Go.IntKind.u64 x (1 : Int)) (6148914691236517205 : Int)) + (Go.Abs.bitsA Go.BinOp.and Go.IntKind.u64 x (6148914691236517205 : Int))) (3689348814741910323 : Int)))) (1085102592571150095 : Int)) (8 : Int))) + (Go.Abs.shrA Go.IntKind.u64 ((Go.Abs.bitsA Go.BinOp.and Go.IntKind.u64 ((Go.Abs.shrA Go.IntKind.u64 ((Go.Abs.bitsA Go.BinOp.and Go.IntKind.u64 (Go.Abs.shrA Go.IntKind.u64 ((Go.Abs.bitsA Go.BinOp.and Go.IntKind.u64 (Go.Abs.shrA Go.IntKind.u64 x (1 : Int)) (6148914691236517205 : Int)) + (Go.Abs.bitsA Go.BinOp.and Go.IntKind.u64 x (6148914691236517205 : Int))) (2 : Int)) (3689348814741910323 : Int)) + (Go.Abs.bitsA Go.BinOp.and Go.IntKind.u64 ((Go.Abs.bitsA Go.BinOp.and Go.IntKind.u64 (Go.Abs.shrA Go.IntKind.u64 x (1 : Int)) (6148914691236517205 : Int)) + (Go.Abs.bitsA Go.BinOp.and Go.IntKind.u64 x (6148914691236517205 : Int))) (3689348814741910323 : Int))) (4 : Int)) + ((Go.Abs.bitsA Go.BinOp.and Go.IntKind.u64 (Go.Abs.shrA Go.IntKind.u64 ((Go.Abs.bitsA Go.BinOp.and Go.IntKind.u64 (Go.Abs.shrA Go.IntKind.u64 x (1 : Int)) (6148914691236517205 : Int)) + (Go.Abs.bitsA Go.BinOp.and Go.IntKind.u64 x (6148914691236517205 : Int))) (2 : Int)) (3689348814741910323 : Int)) + (Go.Abs.bitsA Go.BinOp.and Go.IntKind.u64 ((Go.Abs.bitsA Go.BinOp.and Go.IntKind.u64 (Go.Abs.shrA Go.IntKind.u64 x (1 : Int)) (6148914691236517205 : Int)) + (Go.Abs.bitsA Go.BinOp.and Go.IntKind.u64 x (6148914691236517205 : Int))) (3689348814741910323 : Int)))) (1085102592571150095 : Int)) + (Go.Abs.shrA Go.IntKind.u64 (Go.Abs.bitsA Go.BinOp.and Go.IntKind.u64 ((Go.Abs.shrA Go.IntKind.u64 ((Go.Abs.bitsA Go.BinOp.and Go.IntKind.u64 (Go.Abs.shrA Go.IntKind.u64 ((Go.Abs.bitsA Go.BinOp.and Go.IntKind.u64 (Go.Abs.shrA Go.IntKind.u64 x (1 : Int)) (6148914691236517205 : Int)) + (Go.Abs.bitsA Go.BinOp.and Go.IntKind.u64 x (6148914691236517205 : Int))) (2 : Int)) (3689348814741910323 : Int)) + (Go.Abs.bitsA Go.BinOp.and Go.IntKind.u64 ((Go.Abs.bitsA Go.BinOp.and Go.IntKind.u64 (Go.Abs.shrA Go.IntKind.u64 x (1 : Int)) (6148914691236517205 : Int)) + (Go.Abs.bitsA Go.BinOp.and Go.IntKind.u64 x (6148914691236517205 : Int))) (3689348814741910323 : Int))) (4 : Int)) + ((Go.Abs.bitsA Go.BinOp.and Go.IntKind.u64 (Go.Abs.shrA Go.IntKind.u64 ((Go.Abs.bitsA Go.BinOp.and Go.IntKind.u64 (Go.Abs.shrA Go.IntKind.u64 x (1 : Int)) (6148914691236517205 : Int)) + (Go.Abs.bitsA Go.BinOp.and Go.IntKind.u64 x (6148914691236517205 : Int))) (2 : Int)) (3689348814741910323 : Int)) + (Go.Abs.bitsA Go.BinOp.and Go.IntKind.u64 ((Go.Abs.bitsA Go.BinOp.and Go.IntKind.u64 (Go.Abs.shrA Go.IntKind.u64 x (1 : Int)) (6148914691236517205 : Int)) + (Go.Abs.bitsA Go.BinOp.and Go.IntKind.u64 x (6148914691236517205 : Int))) (3689348814741910323 : Int)))) (1085102592571150095 : Int)) (8 : Int))) (16 : Int))) (32 : Int)))) ∧
  (Go.Abs.fitsK Go.IntKind.i64 ((((Go.Abs.bitsA Go.BinOp.and Go.IntKind.u64 ((Go.Abs.shrA Go.IntKind.u64 ((Go.Abs.bitsA Go.BinOp.and Go.IntKind.u64 (Go.Abs.shrA Go.IntKind.u64 ((Go.Abs.bitsA Go.BinOp.and Go.IntKind.u64 (Go.Abs.shrA Go.IntKind.u64 x (1 : Int)) (6148914691236517205 : Int)) + (Go.Abs.bitsA Go.BinOp.and Go.IntKind.u64 x (6148914691236517205 : Int))) (2 : Int)) (3689348814741910323 : Int)) + (Go.Abs.bitsA Go.BinOp.and Go.IntKind.u64 ((Go.Abs.bitsA Go.BinOp.and Go.IntKind.u64 (Go.Abs.shrA Go.IntKind.u64 x (1 : Int)) (6148914691236517205 : Int)) + (Go.Abs.bitsA Go.BinOp.and Go.IntKind.u64 x (6148914691236517205 : Int))) (3689348814741910323 : Int))) (4 : Int)) + ((Go.Abs.bitsA Go.BinOp.and Go.IntKind.u64 (Go.Abs.shrA Go.IntKind.u64 ((Go.Abs.bitsA Go.BinOp.and Go.IntKind.u64 (Go.Abs.shrA Go.IntKind.u64 x (1 : Int)) (6148914691236517205 : Int)) + (Go.Abs.bitsA Go.BinOp.and Go.IntKind.u64 x (6148914691236517205 : Int))) (2 : Int)) (3689348814741910323 : Int)) + (Go.Abs.bitsA Go.BinOp.and Go.IntKind.u64 ((Go.Abs.bitsA Go.BinOp.and Go.IntKind.u64 (Go.Abs.shrA Go.IntKind.u64 x (1 : Int)) (6148914691236517205 : Int)) + (Go.Abs.bitsA Go.BinOp.and Go.IntKind.u64 x (6148914691236517205 : Int))) (3689348814741910323 : Int)))) (1085102592571150095 : Int)) + (Go.Abs.shrA Go.IntKind.u64 (Go.Abs.bitsA Go.BinOp.and Go.IntKind.u64 ((Go.Abs.shrA Go.IntKind.u64 ((Go.Abs.bitsA Go.BinOp.and Go.IntKind.u64 (Go.Abs.shrA Go.IntKind.u64 ((Go.Abs.bitsA Go.BinOp.and Go.IntKind.u64 (Go.Abs.shrA Go.IntKind.u64 x (1 : Int)) (6148914691236517205 : Int)) + (Go.Abs.bitsA Go.BinOp.and Go.IntKind.u64 x (6148914691236517205 : Int))) (2 : Int)) (3689348814741910323 : Int)) + (Go.Abs.bitsA Go.BinOp.and Go.IntKind.u64 ((Go.Abs.bitsA Go.BinOp.and Go.IntKind.u64 (Go.Abs.shrA Go.IntKind.u64 x (1 : Int)) (6148914691236517205 : Int)) + (Go.Abs.bitsA Go.BinOp.and Go.IntKind.u64 x (6148914691236517205 : Int))) (3689348814741910323 : Int))) (4 : Int)) + ((Go.Abs.bitsA Go.BinOp.and Go.IntKind.u64 (Go.Abs.shrA Go.IntKind.u64 ((Go.Abs.bitsA Go.BinOp.and Go.IntKind.u64 (Go.Abs.shrA Go.IntKind.u64 x (1 : Int)) (6148914691236517205 : Int)) + (Go.Abs.bitsA Go.BinOp.and Go.IntKind.u64 x (6148914691236517205 : Int))) (2 : Int)) (3689348814741910323 : Int)) + (Go.Abs.bitsA Go.BinOp.and Go.IntKind.u64 ((Go.Abs.bitsA Go.BinOp.and Go.IntKind.u64 (Go.Abs.shrA Go.IntKind.u64 x (1 : Int)) (6148914691236517205 : Int)) + (Go.Abs.bitsA Go.BinOp.and Go.IntKind.u64 x (6148914691236517205 : Int))) (3689348814741910323 : Int)))) (1085102592571150095 : Int)) (8 : Int))) + (Go.Abs.shrA Go.IntKind.u64 ((Go.Abs.bitsA Go.BinOp.and Go.IntKind.u64 ((Go.Abs.shrA Go.IntKind.u64 ((Go.Abs.bitsA Go.BinOp.and Go.IntKind.u64 (Go.Abs.shrA Go.IntKind.u64 ((Go.Abs.bitsA Go.BinOp.and Go.IntKind.u64 (Go.Abs.shrA Go.IntKind.u64 x (1 : Int)) (6148914691236517205 : Int)) + (Go.Abs.bitsA Go.BinOp.and Go.IntKind.u64 x (6148914691236517205 : Int))) (2 : Int)) (3689348814741910323 : Int)) + (Go.Abs.bitsA Go.BinOp.and Go.IntKind.u64 ((Go.Abs.bitsA Go.BinOp.and Go.IntKind.u64 (Go.Abs.shrA Go.IntKind.u64 x (1 : Int)) (6148914691236517205 : Int)) + (Go.Abs.bitsA Go.BinOp.and Go.IntKind.u64 x (6148914691236517205 : Int))) (3689348814741910323 : Int))) (4 : Int)) + ((Go.Abs.bitsA Go.BinOp.and Go.IntKind.u64 (Go.Abs.shrA Go.IntKind.u64 ((Go.Abs.bitsA Go.BinOp.and Go.IntKind.u64 (Go.Abs.shrA Go.IntKind.u64 x (1 : Int)) (6148914691236517205 : Int)) + (Go.Abs.bitsA Go.BinOp.and Go.IntKind.u64 x (6148914691236517205 : Int))) (2 : Int)) (3689348814741910323 : Int)) + (Go.Abs.bitsA Go.BinOp.and Go.IntKind.u64 ((Go.Abs.bitsA Go.BinOp.and Go.IntKind.u64 (Go.Abs.shrA Go.IntKind.u64 x (1 : Int)) (6148914691236517205 : Int)) + (Go.Abs.bitsA Go.BinOp.and Go.IntKind.u64 x (6148914691236517205 : Int))) (3689348814741910323 : Int)))) (1085102592571150095 : Int)) + (Go.Abs.shrA Go.IntKind.u64 (Go.Abs.bitsA Go.BinOp.and Go.IntKind.u64 ((Go.Abs.shrA Go.IntKind.u64 ((Go.Abs.bitsA Go.BinOp.and Go.IntKind.u64 (Go.Abs.shrA Go.IntKind.u64 ((Go.Abs.bitsA Go.BinOp.and Go.IntKind.u64 (Go.Abs.shrA Go.IntKind.u64 x (1 : Int)) (6148914691236517205 : Int)) + (Go.Abs.bitsA Go.BinOp.and Go.IntKind.u64 x (6148914691236517205 : Int))) (2 : Int)) (3689348814741910323 : Int)) + (Go.Abs.bitsA Go.BinOp.and Go.IntKind.u64 ((Go.Abs.bitsA Go.BinOp.and Go.IntKind.u64 (Go.Abs.shrA Go.IntKind.u64 x (1 : Int)) (6148914691236517205 : Int)) + (Go.Abs.bitsA Go.BinOp.and Go.IntKind.u64 x (6148914691236517205 : Int))) (3689348814741910323 : Int))) (4 : Int)) + ((Go.Abs.bitsA Go.BinOp.and Go.IntKind.u64 (Go.Abs.shrA Go.IntKind.u64 ((Go.Abs.bitsA Go.BinOp.and Go.IntKind.u64 (Go.Abs.shrA Go.IntKind.u64 x (1 : Int)) (6148914691236517205 : Int)) + (Go.Abs.bitsA Go.BinOp.and Go.IntKind.u64 x (6148914691236517205 : Int))) (2 : Int)) (3689348814741910323 : Int)) + (Go.Abs.bitsA Go.BinOp.and Go.IntKind.u64 ((Go.Abs.bitsA Go.BinOp.and Go.IntKind.u64 (Go.Abs.shrA Go.IntKind.u64 x (1 : Int)) (6148914691236517205 : Int)) + (Go.Abs.bitsA Go.BinOp.and Go.IntKind.u64 x (6148914691236517205 : Int))) (3689348814741910323 : Int)))) (1085102592571150095 : Int)) (8 : Int))) (16 : Int))) + (Go.Abs.shrA Go.IntKind.u64 (((Go.Abs.bitsA Go.BinOp.and Go.IntKind.u64 ((Go.Abs.shrA Go.IntKind.u64 ((Go.Abs.bitsA Go.BinOp.and Go.IntKind.u64 (Go.Abs.shrA Go.IntKind.u64 ((Go.Abs.bitsA Go.BinOp.and Go.IntKind.u64 (Go.Abs.shrA Go.IntKind.u64 x (1 : Int)) (6148914691236517205 : Int)) + (Go.Abs.bitsA Go.BinOp.and Go.IntKind.u64 x (6148914691236517205 : Int))) (2 : Int)) (3689348814741910323 : Int)) + (Go.Abs.bitsA Go.BinOp.and Go.IntKind.u64 ((Go.Abs.bitsA Go.BinOp.and Go.IntKind.u64 (Go.Abs.shrA Go.IntKind.u64 x (1 : Int)) (6148914691236517205 : Int)) + (Go.Abs.bitsA Go.BinOp.and Go.IntKind.u64 x (6148914691236517205 : Int))) (3689348814741910323 : Int))) (4 : Int)) + ((Go.Abs.bitsA Go.BinOp.and Go.IntKind.u64 (Go.Abs.shrA Go.IntKind.u64 ((Go.Abs.bitsA Go.BinOp.and Go.IntKind.u64 (Go.Abs.shrA Go.IntKind.u64 x (1 : Int)) (6148914691236517205 : Int)) + (Go.Abs.bitsA Go.BinOp.and Go.IntKind.u64 x (6148914691236517205 : Int))) (2 : Int)) (3689348814741910323 : Int)) + (Go.Abs.bitsA Go.BinOp.and Go.IntKind.u64 ((Go.Abs.bitsA Go.BinOp.and Go.IntKind.u64 (Go.Abs.shrA Go.IntKind.u64 x (1 : Int)) (6148914691236517205 : Int)) + (Go.Abs.bitsA Go.BinOp.and Go.IntKind.u64 x (6148914691236517205 : Int))) (3689348814741910323 : Int)))) (1085102592571150095 : Int)) + (Go.Abs.shrA Go.IntKind.u64 (Go.Abs.bitsA Go.BinOp.and Go.IntKind.u64 ((Go.Abs.shrA Go.IntKind.u64 ((Go.Abs.bitsA Go.BinOp.and Go.IntKind.u64 (Go.Abs.shrA Go.IntKind.u64 ((Go.Abs.bitsA Go.BinOp.and Go.IntKind.u64 (Go.Abs.shrA Go.IntKind.u64 x (1 : Int)) (6148914691236517205 : Int)) + (Go.Abs.bitsA Go.BinOp.and Go.IntKind.u64 x (6148914691236517205 : Int))) (2 : Int)) (3689348814741910323 : Int)) + (Go.Abs.bitsA Go.BinOp.and Go.IntKind.u64 ((Go.Abs.bitsA Go.BinOp.and Go.IntKind.u64 (Go.Abs.shrA Go.IntKind.u64 x (1 : Int)) (6148914691236517205 : Int)) + (Go.Abs.bitsA Go.BinOp.and Go.IntKind.u64 x (6148914691236517205 : Int))) (3689348814741910323 : Int))) (4 : Int)) + ((Go.Abs.bitsA Go.BinOp.and Go.IntKind.u64 (Go.Abs.shrA Go.IntKind.u64 ((Go.Abs.bitsA Go.BinOp.and Go.IntKind.u64 (Go.Abs.shrA Go.IntKind.u64 x (1 : Int)) (6148914691236517205 : Int)) + (Go.Abs.bitsA Go.BinOp.and Go.IntKind.u64 x (6148914691236517205 : Int))) (2 : Int)) (3689348814741910323 : Int)) + (Go.Abs.bitsA Go.BinOp.and Go.IntKind.u64 ((Go.Abs.bitsA Go.BinOp.and Go.IntKind.u64 (Go.Abs.shrA Go.IntKind.u64 x (1 : Int)) (6148914691236517205 : Int)) + (Go.Abs.bitsA Go.BinOp.and Go.IntKind.u64 x (6148914691236517205 : Int))) (3689348814741910323 : Int)))) (1085102592571150095 : Int)) (8 : Int))) + (Go.Abs.shrA Go.IntKind.u64 ((Go.Abs.bitsA Go.BinOp.and Go.IntKind.u64 ((Go.Abs.shrA Go.IntKind.u64 ((Go.Abs.bitsA Go.BinOp.and Go.IntKind.u64 (Go.Abs.shrA Go.IntKind.u64 ((Go.Abs.bitsA Go.BinOp.and Go.IntKind.u64 (Go.Abs.shrA Go.IntKind.u64 x (1 : Int)) (6148914691236517205 : Int)) + (Go.Abs.bitsA Go.BinOp.and Go.IntKind.u64 x (6148914691236517205 : Int))) (2 : Int)) (3689348814741910323 : Int)) + (Go.Abs.bitsA Go.BinOp.and Go.IntKind.u64 ((Go.Abs.bitsA Go.BinOp.and Go.IntKind.u64 (Go.Abs.shrA Go.IntKind.u64 x (1 : Int)) (6148914691236517205 : Int)) + (Go.Abs.bitsA Go.BinOp.and Go.IntKind.u64 x (6148914691236517205 : Int))) (3689348814741910323 : Int))) (4 : Int)) + ((Go.Abs.bitsA Go.BinOp.and Go.IntKind.u64 (Go.Abs.shrA Go.IntKind.u64 ((Go.Abs.bitsA Go.BinOp.and Go.IntKind.u64 (Go.Abs.shrA Go.IntKind.u64 x (1 : Int)) (6148914691236517205 : Int)) + (Go.Abs.bitsA Go.BinOp.and Go.IntKind.u64 x (6148914691236517205 : Int))) (2 : Int)) (3689348814741910323 : Int)) + (Go.Abs.bitsA Go.BinOp.and Go.IntKind.u64 ((Go.Abs.bitsA Go.BinOp.and Go.IntKind.u64 (Go.Abs.shrA Go.IntKind.u64 x (1 : Int)) (6148914691236517205 : Int)) + (Go.Abs.bitsA Go.BinOp.and Go.IntKind.u64 x (6148914691236517205 : Int))) (3689348814741910323 : Int)))) (1085102592571150095 : Int)) + (Go.Abs.shrA Go.IntKind.u64 (Go.Abs.bitsA Go.BinOp.and Go.IntKind.u64 ((Go.Abs.shrA Go.IntKind.u64 ((Go.Abs.bitsA Go.BinOp.and Go.IntKind.u64 (Go.Abs.shrA Go.IntKind.u64 ((Go.Abs.bitsA Go.BinOp.and Go.IntKind.u64 (Go.Abs.shrA Go.IntKind.u64 x (1 : Int)) (6148914691236517205 : Int)) + (Go.Abs.bitsA Go.BinOp.and Go.IntKind.u64 x (6148914691236517205 : Int))) (2 : Int)) (3689348814741910323 : Int)) + (Go.Abs.bitsA Go.BinOp.and Go.IntKind.u64 ((Go.Abs.bitsA Go.BinOp.and Go.IntKind.u64 (Go.Abs.shrA Go.IntKind.u64 x (1 : Int)) (6148914691236517205 : Int)) + (Go.Abs.bitsA Go.BinOp.and Go.IntKind.u64 x (6148914691236517205 : Int))) (3689348814741910323 : Int))) (4 : Int)) + ((Go.Abs.bitsA Go.BinOp.and Go.IntKind.u64 (Go.Abs.shrA Go.IntKind.u64 ((Go.Abs.bitsA Go.BinOp.and Go.IntKind.u64 (Go.Abs.shrA Go.IntKind.u64 x (1 : Int)) (6148914691236517205 : Int)) + (Go.Abs.bitsA Go.BinOp.and Go.IntKind.u64 x (6148914691236517205 : Int))) (2 : Int)) (3689348814741910323 : Int)) + (Go.Abs.bitsA Go.BinOp.and Go.IntKind.u64 ((Go.Abs.bitsA Go.BinOp.and Go.IntKind.u64 (Go.Abs.shrA Go.IntKind.u64 x (1 : Int)) (6148914691236517205 : Int)) + (Go.Abs.bitsA Go.BinOp.and Go.IntKind.u64 x (6148914691236517205 : Int))) (3689348814741910323 : Int)))) (1085102592571150095 : Int)) (8 : Int))) (16 : Int))) (32 : Int)))) ∧
  (k (Go.Abs.AVal.int Go.IntKind.i64 (Go.Abs.bitsA Go.BinOp.and Go.IntKind.i64 ((((Go.Abs.bitsA Go.BinOp.and Go.IntKind.u64 ((Go.Abs.shrA Go.IntKind.u64 ((Go.Abs.bitsA Go.BinOp.and Go.IntKind.u64 (Go.Abs.shrA Go.IntKind.u64 ((Go.Abs.bitsA Go.BinOp.and Go.IntKind.u64 (Go.Abs.shrA Go.IntKind.u64 x (1 : Int)) (6148914691236517205 : Int)) + (Go.Abs.bitsA Go.BinOp.and Go.IntKind.u64 x (6148914691236517205 : Int))) (2 : Int)) (3689348814741910323 : Int)) + (Go.Abs.bitsA Go.BinOp.and Go.IntKind.u64 ((Go.Abs.bitsA Go.BinOp.and Go.IntKind.u64 (Go.Abs.shrA Go.IntKind.u64 x (1 : Int)) (6148914691236517205 : Int)) + (Go.Abs.bitsA Go.BinOp.and Go.IntKind.u64 x (6148914691236517205 : Int))) (3689348814741910323 : Int))) (4 : Int)) + ((Go.Abs.bitsA Go.BinOp.and Go.IntKind.u64 (Go.Abs.shrA Go.IntKind.u64 ((Go.Abs.bitsA Go.BinOp.and Go.IntKind.u64 (Go.Abs.shrA Go.IntKind.u64 x (1 : Int)) (6148914691236517205 : Int)) + (Go.Abs.bitsA Go.BinOp.and Go.IntKind.u64 x (6148914691236517205 : Int))) (2 : Int)) (3689348814741910323 : Int)) + (Go.Abs.bitsA Go.BinOp.and Go.IntKind.u64 ((Go.Abs.bitsA Go.BinOp.and Go.IntKind.u64 (Go.Abs.shrA Go.IntKind.u64 x (1 : Int)) (6148914691236517205 : Int)) + (Go.Abs.bitsA Go.BinOp.and Go.IntKind.u64 x (6148914691236517205 : Int))) (3689348814741910323 : Int)))) (1085102592571150095 : Int)) + (Go.Abs.shrA Go.IntKind.u64 (Go.Abs.bitsA Go.BinOp.and Go.IntKind.u64 ((Go.Abs.shrA Go.IntKind.u64 ((Go.Abs.bitsA Go.BinOp.and Go.IntKind.u64 (Go.Abs.shrA Go.IntKind.u64 ((Go.Abs.bitsA Go.BinOp.and Go.IntKind.u64 (Go.Abs.shrA Go.IntKind.u64 x (1 : Int)) (6148914691236517205 : Int)) + (Go.Abs.bitsA Go.BinOp.and Go.IntKind.u64 x (6148914691236517205 : Int))) (2 : Int)) (3689348814741910323 : Int)) + (Go.Abs.bitsA Go.BinOp.and Go.IntKind.u64 ((Go.Abs.bitsA Go.BinOp.and Go.IntKind.u64 (Go.Abs.shrA Go.IntKind.u64 x (1 : Int)) (6148914691236517205 : Int)) + (Go.Abs.bitsA Go.BinOp.and Go.IntKind.u64 x (6148914691236517205 : Int))) (3689348814741910323 : Int))) (4 : Int)) + ((Go.Abs.bitsA Go.BinOp.and Go.IntKind.u64 (Go.Abs.shrA Go.IntKind.u64 ((Go.Abs.bitsA Go.BinOp.and Go.IntKind.u64 (Go.Abs.shrA Go.IntKind.u64 x (1 : Int)) (6148914691236517205 : Int)) + (Go.Abs.bitsA Go.BinOp.and Go.IntKind.u64 x (6148914691236517205 : Int))) (2 : Int)) (3689348814741910323 : Int)) + (Go.Abs.bitsA Go.BinOp.and Go.IntKind.u64 ((Go.Abs.bitsA Go.BinOp.and Go.IntKind.u64 (Go.Abs.shrA Go.IntKind.u64 x (1 : Int)) (6148914691236517205 : Int)) + (Go.Abs.bitsA Go.BinOp.and Go.IntKind.u64 x (6148914691236517205 : Int))) (3689348814741910323 : Int)))) (1085102592571150095 : Int)) (8 : Int))) + (Go.Abs.shrA Go.IntKind.u64 ((Go.Abs.bitsA Go.BinOp.and Go.IntKind.u64 ((Go.Abs.shrA Go.IntKind.u64 ((Go.Abs.bitsA Go.BinOp.and Go.IntKind.u64 (Go.Abs.shrA Go.IntKind.u64 ((Go.Abs.bitsA Go.BinOp.and Go.IntKind.u64 (Go.Abs.shrA Go.IntKind.u64 x (1 : Int)) (6148914691236517205 : Int)) + (Go.Abs.bitsA Go.BinOp.and Go.IntKind.u64 x (6148914691236517205 : Int))) (2 : Int)) (3689348814741910323 : Int)) + (Go.Abs.bitsA Go.BinOp.and Go.IntKind.u64 ((Go.Abs.bitsA Go.BinOp.and Go.IntKind.u64 (Go.Abs.shrA Go.IntKind.u64 x (1 : Int)) (6148914691236517205 : Int)) + (Go.Abs.bitsA Go.BinOp.and Go.IntKind.u64 x (6148914691236517205 : Int))) (3689348814741910323 : Int))) (4 : Int)) + ((Go.Abs.bitsA Go.BinOp.and Go.IntKind.u64 (Go.Abs.shrA Go.IntKind.u64 ((Go.Abs.bitsA Go.BinOp.and Go.IntKind.u64 (Go.Abs.shrA Go.IntKind.u64 x (1 : Int)) (6148914691236517205 : Int)) + (Go.Abs.bitsA Go.BinOp.and Go.IntKind.u64 x (6148914691236517205 : Int))) (2 : Int)) (3689348814741910323 : Int)) + (Go.Abs.bitsA Go.BinOp.and Go.IntKind.u64 ((Go.Abs.bitsA Go.BinOp.and Go.IntKind.u64 (Go.Abs.shrA Go.IntKind.u64 x (1 : Int)) (6148914691236517205 : Int)) + (Go.Abs.bitsA Go.BinOp.and Go.IntKind.u64 x (6148914691236517205 : Int))) (3689348814741910323 : Int)))) (1085102592571150095 : Int)) + (Go.Abs.shrA Go.IntKind.u64 (Go.Abs.bitsA Go.BinOp.and Go.IntKind.u64 ((Go.Abs.shrA Go.IntKind.u64 ((Go.Abs.bitsA Go.BinOp.and Go.IntKind.u64 (Go.Abs.shrA Go.IntKind.u64 ((Go.Abs.bitsA Go.BinOp.and Go.IntKind.u64 (Go.Abs.shrA Go.IntKind.u64 x (1 : Int)) (6148914691236517205 : Int)) + (Go.Abs.bitsA Go.BinOp.and Go.IntKind.u64 x (6148914691236517205 : Int))) (2 : Int)) (3689348814741910323 : Int)) + (Go.Abs.bitsA Go.BinOp.and Go.IntKind.u64 ((Go.Abs.bitsA Go.BinOp.and Go.IntKind.u64 (Go.Abs.shrA Go.IntKind.u64 x (1 : Int)) (6148914691236517205 : Int)) + (Go.Abs.bitsA Go.BinOp.and Go.IntKind.u64 x (6148914691236517205 : Int))) (3689348814741910323 : Int))) (4 : Int)) + ((Go.Abs.bitsA Go.BinOp.and Go.IntKind.u64 (Go.Abs.shrA Go.IntKind.u64 ((Go.Abs.bitsA Go.BinOp.and Go.IntKind.u64 (Go.Abs.shrA Go.IntKind.u64 x (1 : Int)) (6148914691236517205 : Int)) + (Go.Abs.bitsA Go.BinOp.and Go.IntKind.u64 x (6148914691236517205 : Int))) (2 : Int)) (3689348814741910323 : Int)) + (Go.Abs.bitsA Go.BinOp.and Go.IntKind.u64 ((Go.Abs.bitsA Go.BinOp.and Go.IntKind.u64 (Go.Abs.shrA Go.IntKind.u64 x (1 : Int)) (6148914691236517205 : Int)) + (Go.Abs.bitsA Go.BinOp.and Go.IntKind.u64 x (6148914691236517205 : Int))) (3689348814741910323 : Int)))) (1085102592571150095 : Int)) (8 : Int))) (16 : Int))) + (Go.Abs.shrA Go.IntKind.u64 (((Go.Abs.bitsA Go.BinOp.and Go.IntKind.u64 ((Go.Abs.shrA Go.IntKind.u64 ((Go.Abs.bitsA Go.BinOp.and Go.IntKind.u64 (Go.Abs.shrA Go.IntKind.u64 ((Go.Abs.bitsA Go.BinOp.and Go.IntKind.u64 (Go.Abs.shrA Go.IntKind.u64 x (1 : Int)) (6148914691236517205 : Int)) + (Go.Abs.bitsA Go.BinOp.and Go.IntKind.u64 x (6148914691236517205 : Int))) (2 : Int)) (3689348814741910323 : Int)) + (Go.Abs.bitsA Go.BinOp.and Go.IntKind.u64 ((Go.Abs.bitsA Go.BinOp.and Go.IntKind.u64 (Go.Abs.shrA Go.IntKind.u64 x (1 : Int)) (6148914691236517205 : Int)) + (Go.Abs.bitsA Go.BinOp.and Go.IntKind.u64 x (6148914691236517205 : Int))) (3689348814741910323 : Int))) (4 : Int)) + ((Go.Abs.bitsA Go.BinOp.and Go.IntKind.u64 (Go.Abs.shrA Go.IntKind.u64 ((Go.Abs.bitsA Go.BinOp.and Go.IntKind.u64 (Go.Abs.shrA Go.IntKind.u64 x (1 : Int)) (6148914691236517205 : Int)) + (Go.Abs.bitsA Go.BinOp.and Go.IntKind.u64 x (6148914691236517205 : Int))) (2 : Int)) (3689348814741910323 : Int)) + (Go.Abs.bitsA Go.BinOp.and Go.IntKind.u64 ((Go.Abs.bitsA Go.BinOp.and Go.IntKind.u64 (Go.Abs.shrA Go.IntKind.u64 x (1 : Int)) (6148914691236517205 : Int)) + (Go.Abs.bitsA Go.BinOp.and Go.IntKind.u64 x (6148914691236517205 : Int))) (3689348814741910323 : Int)))) (1085102592571150095 : Int)) + (Go.Abs.shrA Go.IntKind.u64 (Go.Abs.bitsA Go.BinOp.and Go.IntKind.u64 ((Go.Abs.shrA Go.IntKind.u64 ((Go.Abs.bitsA Go.BinOp.and Go.IntKind.u64 (Go.Abs.shrA Go.IntKind.u64 ((Go.Abs.bitsA Go.BinOp.and Go.IntKind.u64 (Go.Abs.shrA Go.IntKind.u64 x (1 : Int)) (6148914691236517205 : Int)) + (Go.Abs.bitsA Go.BinOp.and Go.IntKind.u64 x (6148914691236517205 : Int))) (2 : Int)) (3689348814741910323 : Int)) + (Go.Abs.bitsA Go.BinOp.and Go.IntKind.u64 ((Go.Abs.bitsA Go.BinOp.and Go.IntKind.u64 (Go.Abs.shrA Go.IntKind.u64 x (1 : Int)) (6148914691236517205 : Int)) + (Go.Abs.bitsA Go.BinOp.and Go.IntKind.u64 x (6148914691236517205 : Int))) (3689348814741910323 : Int))) (4 : Int)) + ((Go.Abs.bitsA Go.BinOp.and Go.IntKind.u64 (Go.Abs.shrA Go.IntKind.u64 ((Go.Abs.bitsA Go.BinOp.and Go.IntKind.u64 (Go.Abs.shrA Go.IntKind.u64 x (1 : Int)) (6148914691236517205 : Int)) + (Go.Abs.bitsA Go.BinOp.and Go.IntKind.u64 x (6148914691236517205 : Int))) (2 : Int)) (3689348814741910323 : Int)) + (Go.Abs.bitsA Go.BinOp.and Go.IntKind.u64 ((Go.Abs.bitsA Go.BinOp.and Go.IntKind.u64 (Go.Abs.shrA Go.IntKind.u64 x (1 : Int)) (6148914691236517205 : Int)) + (Go.Abs.bitsA Go.BinOp.and Go.IntKind.u64 x (6148914691236517205 : Int))) (3689348814741910323 : Int)))) (1085102592571150095 : Int)) (8 : Int))) + (Go.Abs.shrA Go.IntKind.u64 ((Go.Abs.bitsA Go.BinOp.and Go.IntKind.u64 ((Go.Abs.shrA Go.IntKind.u64 ((Go.Abs.bitsA Go.BinOp.and Go.IntKind.u64 (Go.Abs.shrA Go.IntKind.u64 ((Go.Abs.bitsA Go.BinOp.and Go.IntKind.u64 (Go.Abs.shrA Go.IntKind.u64 x (1 : Int)) (6148914691236517205 : Int)) + (Go.Abs.bitsA Go.BinOp.and Go.IntKind.u64 x (6148914691236517205 : Int))) (2 : Int)) (3689348814741910323 : Int)) + (Go.Abs.bitsA Go.BinOp.and Go.IntKind.u64 ((Go.Abs.bitsA Go.BinOp.and Go.IntKind.u64 (Go.Abs.shrA Go.IntKind.u64 x (1 : Int)) (6148914691236517205 : Int)) + (Go.Abs.bitsA Go.BinOp.and Go.IntKind.u64 x (6148914691236517205 : Int))) (3689348814741910323 : Int))) (4 : Int)) + ((Go.Abs.bitsA Go.BinOp.and Go.IntKind.u64 (Go.Abs.shrA Go.IntKind.u64 ((Go.Abs.bitsA Go.BinOp.and Go.IntKind.u64 (Go.Abs.shrA Go.IntKind.u64 x (1 : Int)) (6148914691236517205 : Int)) + (Go.Abs.bitsA Go.BinOp.and Go.IntKind.u64 x (6148914691236517205 : Int))) (2 : Int)) (3689348814741910323 : Int)) + (Go.Abs.bitsA Go.BinOp.and Go.IntKind.u64 ((Go.Abs.bitsA Go.BinOp.and Go.IntKind.u64 (Go.Abs.shrA Go.IntKind.u64 x (1 : Int)) (6148914691236517205 : Int)) + (Go.Abs.bitsA Go.BinOp.and Go.IntKind.u64 x (6148914691236517205 : Int))) (3689348814741910323 : Int)))) (1085102592571150095 : Int)) + (Go.Abs.shrA Go.IntKind.u64 (Go.Abs.bitsA Go.BinOp.and Go.IntKind.u64 ((Go.Abs.shrA Go.IntKind.u64 ((Go.Abs.bitsA Go.BinOp.and Go.IntKind.u64 (Go.Abs.shrA Go.IntKind.u64 ((Go.Abs.bitsA Go.BinOp.and Go.IntKind.u64 (Go.Abs.shrA Go.IntKind.u64 x (1 : Int)) (6148914691236517205 : Int)) + (Go.Abs.bitsA Go.BinOp.and Go.IntKind.u64 x (6148914691236517205 : Int))) (2 : Int)) (3689348814741910323 : Int)) + (Go.Abs.bitsA Go.BinOp.and Go.IntKind.u64 ((Go.Abs.bitsA Go.BinOp.and Go.IntKind.u64 (Go.Abs.shrA Go.IntKind.u64 x (1 : Int)) (6148914691236517205 : Int)) + (Go.Abs.bitsA Go.BinOp.and Go.IntKind.u64 x (6148914691236517205 : Int))) (3689348814741910323 : Int))) (4 : Int)) + ((Go.Abs.bitsA Go.BinOp.and Go.IntKind.u64 (Go.Abs.shrA Go.IntKind.u64 ((Go.Abs.bitsA Go.BinOp.and Go.IntKind.u64 (Go.Abs.shrA Go.IntKind.u64 x (1 : Int)) (6148914691236517205 : Int)) + (Go.Abs.bitsA Go.BinOp.and Go.IntKind.u64 x (6148914691236517205 : Int))) (2 : Int)) (3689348814741910323 : Int)) + (Go.Abs.bitsA Go.BinOp.and Go.IntKind.u64 ((Go.Abs.bitsA Go.BinOp.and Go.IntKind.u64 (Go.Abs.shrA Go.IntKind.u64 x (1 : Int)) (6148914691236517205 : Int)) + (Go.Abs.bitsA Go.BinOp.and Go.IntKind.u64 x (6148914691236517205 : Int))) (3689348814741910323 : Int)))) (1085102592571150095 : Int)) (8 : Int))) (16 : Int))) (32 : Int))) (127 : Int))) [])
theorem eq98 (x : Int) (k : AVal → List Cont → Prop) : awpF (envOf []) Try.prog kt 98 false Try.f98 (v98.S.enc Unit (x, ())).1 [] k = vc98 x k := by kernel_rfl
theorem tx98 : (Try.f98.body.map Code.textsOk).getD true = true := by kernel_rfl

def vc86 (x : Int) (k : AVal → List Cont → Prop) : Prop :=
  (Go.Abs.King.v98.p (x, ())) ∧
  (k (Go.Abs.AVal.int Go.IntKind.i64 (Go.Abs.King.ones x)) [])
theorem eq86 (x : Int) (k : AVal → List Cont → Prop) : awpF (envOf [(98, mkC [v98])]) Try.prog kt 86 false Try.f86 (v86.S.enc Unit (x, ())).1 [] k = vc86 x k := by kernel_rfl
theorem tx86 : (Try.f86.body.map Code.textsOk).getD true = true := by kernel_rfl

def vc99 (m : Int) (pots : List (List Int)) (q : SemP) (bits mark : Int) (k : AVal → List Cont → Prop) : Prop :=
  ((List.length (List.replicate (5 : Nat) (Int.ofNat 0))) = (5 : Nat)) ∧
  (Go.Abs.King.v60.p (bits, ())) ∧
  Go.Abs.Loop (σ := (Int × ((List (List Int)) × (Go.Abs.SemP × (Int × (Int × (Int × (Int × ((List Int) × ((List Int) × Unit)))))))))) (fun K6 x6 =>
    br ((decide (x6.2.2.2.2.2.1 < x6.2.2.2.2.1)))
     ((((0 : Int) ≤ x6.2.2.2.2.2.1) ∧ ((Int.toNat x6.2.2.2.2.2.1) < (List.length x6.2.2.2.2.2.2.2.2.1))) ∧
     ∃ h8 : ((Int.toNat x6.2.2.2.2.2.1) < (List.length x6.2.2.2.2.2.2.2.2.1)),
     ∃ h9 : (((0 : Int) ≤ (x6.2.2.2.2.2.2.2.2.1[(Int.toNat x6.2.2.2.2.2.1)]'h8)) ∧ ((Int.toNat (x6.2.2.2.2.2.2.2.2.1[(Int.toNat x6.2.2.2.2.2.1)]'h8)) < (List.length x6.2.1))),
     ∃ h10 : (((0 : Int) ≤ x6.2.2.2.1) ∧ ((Int.toNat x6.2.2.2.1) < (List.length (x6.2.1[(Int.toNat (x6.2.2.2.2.2.2.2.2.1[(Int.toNat x6.2.2.2.2.2.1)]'h8))]'h9.2)))),
     (((0 : Int) ≤ ((x6.2.1[(Int.toNat (x6.2.2.2.2.2.2.2.2.1[(Int.toNat x6.2.2.2.2.2.1)]'h8))]'h9.2)[(Int.toNat x6.2.2.2.1)]'h10.2)) ∧ ((Int.toNat ((x6.2.1[(Int.toNat (x6.2.2.2.2.2.2.2.2.1[(Int.toNat x6.2.2.2.2.2.1)]'h8))]'h9.2)[(Int.toNat x6.2.2.2.1)]'h10.2)) < (5 : Nat))) ∧
     ∃ h11 : ((Int.toNat ((x6.2.1[(Int.toNat (x6.2.2.2.2.2.2.2.2.1[(Int.toNat x6.2.2.2.2.2.1)]'h8))]'h9.2)[(Int.toNat x6.2.2.2.1)]'h10.2)) < (List.length x6.2.2.2.2.2.2.2.1)),
     (Go.Abs.fitsK Go.IntKind.i64 ((x6.2.2.2.2.2.2.2.1[(Int.toNat ((x6.2.1[(Int.toNat (x6.2.2.2.2.2.2.2.2.1[(Int.toNat x6.2.2.2.2.2.1)]'h8))]'h9.2)[(Int.toNat x6.2.2.2.1)]'h10.2))]'h11) + (1 : Int))) ∧
     (((0 : Int) ≤ ((x6.2.1[(Int.toNat (x6.2.2.2.2.2.2.2.2.1[(Int.toNat x6.2.2.2.2.2.1)]'h8))]'h9.2)[(Int.toNat x6.2.2.2.1)]'h10.2)) ∧ ((Int.toNat ((x6.2.1[(Int.toNat (x6.2.2.2.2.2.2.2.2.1[(Int.toNat x6.2.2.2.2.2.1)]'h8))]'h9.2)[(Int.toNat x6.2.2.2.1)]'h10.2)) < (5 : Nat))) ∧
     ∃ h12 : ((Int.toNat ((x6.2.1[(Int.toNat (x6.2.2.2.2.2.2.2.2.1[(Int.toNat x6.2.2.2.2.2.1)]'h8))]'h9.2)[(Int.toNat x6.2.2.2.1)]'h10.2)) < (List.length x6.2.2.2.2.2.2.2.1)),
     (Go.Abs.fitsK Go.IntKind.i64 (x6.2.2.2.2.2.1 + (1 : Int))) ∧
     (K6 (x6.1, (x6.2.1, (x6.2.2.1, (x6.2.2.2.1, (x6.2.2.2.2.1, ((x6.2.2.2.2.2.1 + (1 : Int)), (x6.2.2.2.2.2.2.1, ((List.set x6.2.2.2.2.2.2.2.1 (Int.toNat ((x6.2.1[(Int.toNat (x6.2.2.2.2.2.2.2.2.1[(Int.toNat x6.2.2.2.2.2.1)]'h8))]'h9.2)[(Int.toNat x6.2.2.2.1)]'h10.2)) ((x6.2.2.2.2.2.2.2.1[(Int.toNat ((x6.2.1[(Int.toNat (x6.2.2.2.2.2.2.2.2.1[(Int.toNat x6.2.2.2.2.2.1)]'h8))]'h9.2)[(Int.toNat x6.2.2.2.1)]'h10.2))]'h11) + (1 : Int))), (x6.2.2.2.2.2.2.2.2.1, ())))))))))))
     ((Go.Abs.fitsK Go.IntKind.u64 x6.2.2.2.2.2.2.1) ∧
     (Go.Abs.King.v86.p (x6.2.2.2.2.2.2.1, ())) ∧
     (((List.length x6.2.2.2.2.2.2.2.1) * (Go.Abs.Ty.size (Go.Abs.Ty.int Go.IntKind.i64))) = (Go.Abs.sizeT Go.Proofs.Try.prog (129 : Nat))) ∧
     ((List.length x6.2.2.2.2.2.2.2.1) = (Go.Abs.arrLenT Go.Proofs.Try.prog (129 : Nat))) ∧
     ((List.length (List.replicate (5 : Nat) (Int.ofNat 0))) = (Go.Abs.arrLenT Go.Proofs.Try.prog (129 : Nat))) ∧
     br (((Bool.not (x6.2.2.2.2.2.2.2.1 == (List.replicate (5 : Nat) (Int.ofNat 0)))) == Bool.true))
      (((List.length x6.2.2.2.2.2.2.2.1) = (5 : Nat)) ∧
      (Go.Abs.King.v83.p (x6.2.2.2.2.2.2.2.1, ((Go.Abs.King.ones x6.2.2.2.2.2.2.1), ()))) ∧
      (k (Go.Abs.AVal.bool (Bool.not (Go.Abs.King.hasI x6.2.2.2.2.2.2.2.1 (Go.Abs.King.ones x6.2.2.2.2.2.2.1)))) []))
      ((k (Go.Abs.AVal.bool Bool.false) [])))) ((m, (pots, (q, (mark, ((((List.length (Go.Abs.King.listed (Int.toNat bits) (8 : Nat))) : Nat) : Int), ((0 : Int), (bits, ((List.replicate (List.length (List.replicate (5 : Nat) (Int.ofNat 0))) (Int.ofNat 0)), ((Go.Abs.King.listed (Int.toNat bits) (8 : Nat)), ()))))))))))
theorem eq99 (m : Int) (pots : List (List Int)) (q : SemP) (bits mark : Int) (k : AVal → List Cont → Prop) : awpF (envOf [(60, mkC [v60]), (86, mkC [v86]), (83, mkC [v83])]) Try.prog kt 99 false Try.f99 (v99.S.enc Unit (m, pots, q, bits, mark, ())).1 [] k = vc99 m pots q bits mark k := by kernel_rfl
theorem tx99 : (Try.f99.body.map Code.textsOk).getD true = true := by kernel_rfl

def vc94 (m : Int) (pots : List (List Int)) (q : SemP) (bits mark : Int) (k : AVal → List Cont → Prop) : Prop :=
  (k (Go.Abs.AVal.fn (Go.Fn.func (101 : Nat)) [] ((Go.Abs.AVal.iptr ((Go.Abs.AVal.iptr ((Go.Abs.AVal.int Go.IntKind.i64 m) :: ((Go.Abs.AVal.imm (Go.Abs.Ty.slice (Go.Abs.Ty.int Go.IntKind.i64)) pots Bool.false) :: ((Go.Abs.AVal.sem q) :: [])))) :: [])) :: ((Go.Abs.AVal.iptr ((Go.Abs.AVal.int Go.IntKind.i64 bits) :: [])) :: ((Go.Abs.AVal.iptr ((Go.Abs.AVal.int Go.IntKind.i64 mark) :: [])) :: [])))) [])
theorem eq94 (m : Int) (pots : List (List Int)) (q : SemP) (bits mark : Int) (k : AVal → List Cont → Prop) : awpF (envOf []) Try.prog kt 94 false Try.f94 (v94.S.enc Unit (m, pots, q, bits, mark, ())).1 [] k = vc94 m pots q bits mark k := by kernel_rfl
theorem tx94 : (Try.f94.body.map Code.textsOk).getD true = true := by kernel_rfl

def vc89 (x y : Int) (k : AVal → List Cont → Prop) : Prop :=
  br (((decide (x > (0 : Int))) == Bool.true))
   (br (((decide (y < (0 : Int))) == Bool.false))
    ((k (Go.Abs.AVal.bool (decide (x < y))) []))
    ((k (Go.Abs.AVal.bool Bool.true) [])))
   ((k (Go.Abs.AVal.bool Bool.false) []))
theorem eq89 (x y : Int) (k : AVal → List Cont → Prop) : awpF (envOf []) Try.prog kt 89 false Try.f89 (v89.S.enc Unit (x, y, ())).1 [] k = vc89 x y k := by kernel_rfl
theorem tx89 : (Try.f89.body.map Code.textsOk).getD true = true := by kernel_rfl

def vc88 (l : List Int) (k : AVal → List Cont → Prop) : Prop :=
  ∃ h2 : (((0 : Int) ≤ (0 : Int)) ∧ ((Int.toNat (0 : Int)) < (List.length l))),
  (((0 : Int) ≤ (1 : Int)) ∧ ((1 : Int) ≤ (((List.length l) : Nat) : Int))) ∧
  Go.Abs.Loop (σ := (Int × ((List Int) × (Int × (Int × Unit))))) (fun K3 x3 =>
    br ((decide (x3.2.2.2.1 < x3.2.2.1)))
     (∃ h5 : (((0 : Int) ≤ x3.2.2.2.1) ∧ ((Int.toNat x3.2.2.2.1) < (List.length x3.2.1))),
     (Go.Abs.King.v89.p ((x3.2.1[(Int.toNat x3.2.2.2.1)]'h5.2), (x3.1, ()))) ∧
     br ((Go.Abs.King.betterB (x3.2.1[(Int.toNat x3.2.2.2.1)]'h5.2) x3.1))
      ((Go.Abs.fitsK Go.IntKind.i64 (x3.2.2.2.1 + (1 : Int))) ∧
      (K3 ((x3.2.1[(Int.toNat x3.2.2.2.1)]'h5.2), (x3.2.1, (x3.2.2.1, ((x3.2.2.2.1 + (1 : Int)), ()))))))
      ((Go.Abs.fitsK Go.IntKind.i64 (x3.2.2.2.1 + (1 : Int))) ∧
      (K3 (x3.1, (x3.2.1, (x3.2.2.1, ((x3.2.2.2.1 + (1 : Int)), ())))))))
     ((k (Go.Abs.AVal.int Go.IntKind.i64 x3.1) []))) (((l[(Int.toNat (0 : Int))]'h2.2), ((List.drop (Int.toNat (1 : Int)) l), ((((List.length (List.drop (Int.toNat (1 : Int)) l)) : Nat) : Int), ((0 : Int), ())))))
theorem eq88 (l : List Int) (k : AVal → List Cont → Prop) : awpF (envOf [(89, mkC [v89])]) Try.prog kt 88 false Try.f88 (v88.S.enc Unit (l, ())).1 [] k = vc88 l k := by kernel_rfl
theorem tx88 : (Try.f88.body.map Code.textsOk).getD true = true := by kernel_rfl

def vc87 (m : Int) (pots : List (List Int)) (q : SemP) (bits mark : Int) (n : Nat) (k : AVal → List Cont → Prop) : Prop :=
  (Go.Abs.King.v99.p (m, (pots, (q, (bits, (mark, ())))))) ∧
  br ((Bool.not (Go.Abs.King.proper pots (Int.toNat bits) (Int.toNat mark))))
   ((k (Go.Abs.AVal.int Go.IntKind.i64 (Neg.neg (1 : Int))) []))
   ((Go.Abs.King.v94.p (m, (pots, (q, (bits, (mark, ())))))) ∧
   Go.Abs.Loop (σ := (Int × ((List (List Int)) × (Go.Abs.SemP × (Int × (Int × (Int × (Int × ((List (List Int)) × (Go.Abs.SemP × (Int × (Int × (Int × ((List (List Int)) × (Go.Abs.SemP × (Int × (Int × Unit))))))))))))))))) (fun K7 x7 =>
     br ((decide (x7.2.2.2.2.2.1 < (5 : Int))))
      ((Go.Abs.King.v84.p (x7.1, (x7.2.1, (x7.2.2.1, (x7.2.2.2.1, (x7.2.2.2.2.1, (x7.2.2.2.2.2.1, ()))))))) ∧
      ((Go.Abs.King.v69n n).p (x7.2.2.2.2.2.2.2.2.2.2.2.1, (x7.2.2.2.2.2.2.2.2.2.2.2.2.1, (x7.2.2.2.2.2.2.2.2.2.2.2.2.2.1, ((((Go.Abs.King.partOf x7.2.1 (Int.toNat x7.2.2.2.1) (Int.toNat x7.2.2.2.2.1) x7.2.2.2.2.2.1) : Nat) : Int), ()))))) ∧
      br ((decide ((Go.Abs.King.looksI x7.2.2.2.2.2.2.2.2.2.2.2.1 x7.2.2.2.2.2.2.2.2.2.2.2.2.1 (((Go.Abs.King.partOf x7.2.1 (Int.toNat x7.2.2.2.1) (Int.toNat x7.2.2.2.2.1) x7.2.2.2.2.2.1) : Nat) : Int)) < (0 : Int))))
       ((k (Go.Abs.AVal.int Go.IntKind.i64 (Neg.neg (1 : Int))) []))
       ((Go.Abs.fitsK Go.IntKind.i64 (x7.2.2.2.2.2.1 + (1 : Int))) ∧
       (K7 (x7.1, (x7.2.1, (x7.2.2.1, (x7.2.2.2.1, (x7.2.2.2.2.1, ((x7.2.2.2.2.2.1 + (1 : Int)), (x7.2.2.2.2.2.2.1, (x7.2.2.2.2.2.2.2.1, (x7.2.2.2.2.2.2.2.2.1, (x7.2.2.2.2.2.2.2.2.2.1, (x7.2.2.2.2.2.2.2.2.2.2.1, (x7.2.2.2.2.2.2.2.2.2.2.2.1, (x7.2.2.2.2.2.2.2.2.2.2.2.2.1, (x7.2.2.2.2.2.2.2.2.2.2.2.2.2.1, (x7.2.2.2.2.2.2.2.2.2.2.2.2.2.2.1, ((ite ((Go.Abs.King.looksI x7.2.2.2.2.2.2.2.2.2.2.2.1 x7.2.2.2.2.2.2.2.2.2.2.2.2.1 (((Go.Abs.King.partOf x7.2.1 (Int.toNat x7.2.2.2.1) (Int.toNat x7.2.2.2.2.1) x7.2.2.2.2.2.1) : Nat) : Int)) > x7.2.2.2.2.2.2.2.2.2.2.2.2.2.2.2.1) (Go.Abs.King.looksI x7.2.2.2.2.2.2.2.2.2.2.2.1 x7.2.2.2.2.2.2.2.2.2.2.2.2.1 (((Go.Abs.King.partOf x7.2.1 (Int.toNat x7.2.2.2.1) (Int.toNat x7.2.2.2.2.1) x7.2.2.2.2.2.1) : Nat) : Int)) x7.2.2.2.2.2.2.2.2.2.2.2.2.2.2.2.1), ())))))))))))))))))))
      ((k (Go.Abs.AVal.int Go.IntKind.i64 x7.2.2.2.2.2.2.2.2.2.2.2.2.2.2.2.1) []))) ((m, (pots, (q, (bits, (mark, ((0 : Int), (m, (pots, (q, (bits, (mark, (m, (pots, (q, ((0 : Int), ((0 : Int), ()))))))))))))))))))
theorem eq87 (m : Int) (pots : List (List Int)) (q : SemP) (bits mark : Int) (n : Nat) (k : AVal → List Cont → Prop) : awpF (envOf [(99, mkC [v99]), (94, mkC [v94]), (84, mkC [v84]), (69, mkC [v69n n])]) Try.prog kt 87 false Try.f87 (v87.S.enc Unit (m, pots, q, bits, mark, ())).1 [] k = vc87 m pots q bits mark n k := by kernel_rfl
theorem tx87 : (Try.f87.body.map Code.textsOk).getD true = true := by kernel_rfl

def vc66 (m : Int) (pots : List (List Int)) (q : SemP) (begun : List Int) (many : Int) (n : Nat) (k : AVal → List Cont → Prop) : Prop :=
  br ((many == (0 : Int)))
   ((Go.Abs.King.v57.p (m, (pots, (q, (begun, ()))))) ∧
   br ((Go.Abs.King.hardB pots begun))
    ((k (Go.Abs.AVal.reg (0 : Nat) Bool.false) ((Go.Abs.Cont.sl (Go.Abs.Ty.slice (Go.Abs.Ty.int Go.IntKind.i64)) []) :: [])))
    ((k (Go.Abs.AVal.reg (0 : Nat) Bool.false) ((Go.Abs.Cont.sl (Go.Abs.Ty.slice (Go.Abs.Ty.int Go.IntKind.i64)) (begun :: [])) :: []))))
   (br ((decide ((((List.length begun) : Nat) : Int) > (0 : Int))))
    ((Go.Abs.fitsK Go.IntKind.i64 ((((List.length begun) : Nat) : Int) - (1 : Int))) ∧
    ∃ h7 : (((0 : Int) ≤ ((((List.length begun) : Nat) : Int) - (1 : Int))) ∧ ((Int.toNat ((((List.length begun) : Nat) : Int) - (1 : Int))) < (List.length begun))),
    (Go.Abs.fitsK Go.IntKind.i64 ((begun[(Int.toNat ((((List.length begun) : Nat) : Int) - (1 : Int)))]'h7.2) + (1 : Int))) ∧
    Go.Abs.Loop (σ := (Int × ((List (List Int)) × (Go.Abs.SemP × ((List Int) × (Int × (Int × ((List (List Int)) × Unit)))))))) (fun K8 x8 =>
      br ((decide (x8.2.2.2.2.2.1 < x8.1)))
       ((((0 : Int) ≤ (((List.length x8.2.2.2.1) : Nat) : Int)) ∧ (((((List.length x8.2.2.2.1) : Nat) : Int) ≤ (((List.length x8.2.2.2.1) : Nat) : Int)) ∧ ((((List.length x8.2.2.2.1) : Nat) : Int) = (((List.length x8.2.2.2.1) : Nat) : Int)))) ∧
       (((List.length (List.take (Int.toNat (((List.length x8.2.2.2.1) : Nat) : Int)) x8.2.2.2.1)) + (List.length (x8.2.2.2.2.2.1 :: []))) ≤ Go.Abs.big) ∧
       ((0 : Nat) < (List.length (x8.2.2.2.2.2.1 :: []))) ∧
       (Go.Abs.fitsK Go.IntKind.i64 (x8.2.2.2.2.1 - (1 : Int))) ∧
       ((Go.Abs.King.v66n n).p (x8.1, (x8.2.1, (x8.2.2.1, (((List.take (Int.toNat (((List.length x8.2.2.2.1) : Nat) : Int)) x8.2.2.2.1) ++ (x8.2.2.2.2.2.1 :: [])), ((x8.2.2.2.2.1 - (1 : Int)), ())))))) ∧
       (((List.length x8.2.2.2.2.2.2.1) + (List.length (Go.Abs.King.listsI x8.1 x8.2.1 ((List.take (Int.toNat (((List.length x8.2.2.2.1) : Nat) : Int)) x8.2.2.2.1) ++ (x8.2.2.2.2.2.1 :: [])) (x8.2.2.2.2.1 - (1 : Int))))) ≤ Go.Abs.big) ∧
       (Go.Abs.fitsK Go.IntKind.i64 (x8.2.2.2.2.2.1 + (1 : Int))) ∧
       (K8 (x8.1, (x8.2.1, (x8.2.2.1, (x8.2.2.2.1, (x8.2.2.2.2.1, ((x8.2.2.2.2.2.1 + (1 : Int)), ((x8.2.2.2.2.2.2.1 ++ (Go.Abs.King.listsI x8.1 x8.2.1 ((List.take (Int.toNat (((List.length x8.2.2.2.1) : Nat) : Int)) x8.2.2.2.1) ++ (x8.2.2.2.2.2.1 :: [])) (x8.2.2.2.2.1 - (1 : Int)))), ())))))))))
       ((k (Go.Abs.AVal.reg (0 : Nat) Bool.false) ((Go.Abs.Cont.sl (Go.Abs.Ty.slice (Go.Abs.Ty.int Go.IntKind.i64)) x8.2.2.2.2.2.2.1) :: [])))) ((m, (pots, (q, (begun, (many, (((begun[(Int.toNat ((((List.length begun) : Nat) : Int) - (1 : Int)))]'h7.2) + (1 : Int)), ([], ())))))))))
    (Go.Abs.Loop (σ := (Int × ((List (List Int)) × (Go.Abs.SemP × ((List Int) × (Int × (Int × ((List (List Int)) × Unit)))))))) (fun K7 x7 =>
      br ((decide (x7.2.2.2.2.2.1 < x7.1)))
       ((((0 : Int) ≤ (((List.length x7.2.2.2.1) : Nat) : Int)) ∧ (((((List.length x7.2.2.2.1) : Nat) : Int) ≤ (((List.length x7.2.2.2.1) : Nat) : Int)) ∧ ((((List.length x7.2.2.2.1) : Nat) : Int) = (((List.length x7.2.2.2.1) : Nat) : Int)))) ∧
       (((List.length (List.take (Int.toNat (((List.length x7.2.2.2.1) : Nat) : Int)) x7.2.2.2.1)) + (List.length (x7.2.2.2.2.2.1 :: []))) ≤ Go.Abs.big) ∧
       ((0 : Nat) < (List.length (x7.2.2.2.2.2.1 :: []))) ∧
       (Go.Abs.fitsK Go.IntKind.i64 (x7.2.2.2.2.1 - (1 : Int))) ∧
       ((Go.Abs.King.v66n n).p (x7.1, (x7.2.1, (x7.2.2.1, (((List.take (Int.toNat (((List.length x7.2.2.2.1) : Nat) : Int)) x7.2.2.2.1) ++ (x7.2.2.2.2.2.1 :: [])), ((x7.2.2.2.2.1 - (1 : Int)), ())))))) ∧
       (((List.length x7.2.2.2.2.2.2.1) + (List.length (Go.Abs.King.listsI x7.1 x7.2.1 ((List.take (Int.toNat (((List.length x7.2.2.2.1) : Nat) : Int)) x7.2.2.2.1) ++ (x7.2.2.2.2.2.1 :: [])) (x7.2.2.2.2.1 - (1 : Int))))) ≤ Go.Abs.big) ∧
       (Go.Abs.fitsK Go.IntKind.i64 (x7.2.2.2.2.2.1 + (1 : Int))) ∧
       (K7 (x7.1, (x7.2.1, (x7.2.2.1, (x7.2.2.2.1, (x7.2.2.2.2.1, ((x7.2.2.2.2.2.1 + (1 : Int)), ((x7.2.2.2.2.2.2.1 ++ (Go.Abs.King.listsI x7.1 x7.2.1 ((List.take (Int.toNat (((List.length x7.2.2.2.1) : Nat) : Int)) x7.2.2.2.1) ++ (x7.2.2.2.2.2.1 :: [])) (x7.2.2.2.2.1 - (1 : Int)))), ())))))))))
       ((k (Go.Abs.AVal.reg (0 : Nat) Bool.false) ((Go.Abs.Cont.sl (Go.Abs.Ty.slice (Go.Abs.Ty.int Go.IntKind.i64)) x7.2.2.2.2.2.2.1) :: [])))) ((m, (pots, (q, (begun, (many, ((0 : Int), ([], ()))))))))))
theorem eq66 (m : Int) (pots : List (List Int)) (q : SemP) (begun : List Int) (many : Int) (n : Nat) (k : AVal → List Cont → Prop) : awpF (envOf [(57, mkC [v57]), (66, mkC [v66n n])]) Try.prog kt 66 false Try.f66 (v66.S.enc Unit (m, pots, q, begun, many, ())).1 [] k = vc66 m pots q begun many n k := by kernel_rfl
theorem tx66 : (Try.f66.body.map Code.textsOk).getD true = true := by kernel_rfl

def vc27 (m : Int) (pots : List (List Int)) (k : AVal → List Cont → Prop) : Prop :=
  (Go.Abs.King.v55.p (m, (pots, ()))) ∧
  br ((Go.Abs.King.csIs m pots (6 : Int)))
   ((k (Go.Abs.AVal.tup ((Go.Abs.AVal.reg (0 : Nat) Bool.false) :: ((Go.Abs.AVal.int Go.IntKind.i64 (6 : Int)) :: []))) ((Go.Abs.Cont.sl (Go.Abs.Ty.int Go.IntKind.i64) []) :: [])))
   (br ((Go.Abs.King.csIs m pots (15 : Int)))
    ((k (Go.Abs.AVal.tup ((Go.Abs.AVal.reg (0 : Nat) Bool.false) :: ((Go.Abs.AVal.int Go.IntKind.i64 (15 : Int)) :: []))) ((Go.Abs.Cont.sl (Go.Abs.Ty.int Go.IntKind.i64) []) :: [])))
    (br ((Go.Abs.King.csIs m pots (3 : Int)))
     ((k (Go.Abs.AVal.tup ((Go.Abs.AVal.reg (0 : Nat) Bool.false) :: ((Go.Abs.AVal.int Go.IntKind.i64 (3 : Int)) :: []))) ((Go.Abs.Cont.sl (Go.Abs.Ty.int Go.IntKind.i64) []) :: [])))
     (Go.Abs.Loop (σ := (Int × ((List (List Int)) × (Go.Abs.SemP × (Int × (Int × (Int × ((List (List Int)) × ((List Int) × Unit))))))))) (fun K3 x3 =>
       br ((decide (x3.2.2.2.2.1 < x3.2.2.2.1)))
        (Go.Abs.Loop (σ := (Int × ((List (List Int)) × (Go.Abs.SemP × (Int × (Int × (Int × (Int × (Int × (Int × ((List (List Int)) × ((List Int) × Unit)))))))))))) (fun K5 x5 =>
          br ((decide (x5.2.2.2.2.2.2.2.1 < x5.2.2.2.2.2.2.1)))
           (Go.Abs.Loop (σ := (Int × ((List (List Int)) × (Go.Abs.SemP × (Int × (Int × (Int × (Int × (Int × (Int × (Int × (Int × (Int × ((List (List Int)) × ((List Int) × Unit))))))))))))))) (fun K7 x7 =>
             br ((decide (x7.2.2.2.2.2.2.2.2.2.2.1 < x7.2.2.2.2.2.2.2.2.2.1)))
              ((Go.Abs.King.v68.p (x7.1, (x7.2.1, (x7.2.2.1, (x7.2.2.2.2.1, (x7.2.2.2.2.2.2.2.2.2.2.1, ())))))) ∧
              br ((((((List.length (Go.Abs.King.apart x7.2.1 (Int.toNat x7.1) (Int.toNat x7.2.2.2.2.1) (Int.toNat x7.2.2.2.2.2.2.2.2.2.2.1))) : Nat) : Int) == (1 : Int)) == Bool.true))
               ((((0 : Int) ≤ (0 : Int)) ∧ ((Int.toNat (0 : Int)) < (List.length (Go.Abs.King.apart x7.2.1 (Int.toNat x7.1) (Int.toNat x7.2.2.2.2.1) (Int.toNat x7.2.2.2.2.2.2.2.2.2.2.1))))) ∧
               ∃ h9 : ((Int.toNat (0 : Int)) < (List.length (Go.Abs.King.apart x7.2.1 (Int.toNat x7.1) (Int.toNat x7.2.2.2.2.1) (Int.toNat x7.2.2.2.2.2.2.2.2.2.2.1)))),
               br ((((Go.Abs.King.apart x7.2.1 (Int.toNat x7.1) (Int.toNat x7.2.2.2.2.1) (Int.toNat x7.2.2.2.2.2.2.2.2.2.2.1))[(Int.toNat (0 : Int))]'h9) == x7.2.2.2.1))
                ((((List.length x7.2.2.2.2.2.2.2.2.2.2.2.2.2.1) + (List.length (x7.2.2.2.1 :: []))) ≤ Go.Abs.big) ∧
                (Go.Abs.fitsK Go.IntKind.i64 (x7.2.2.2.2.2.2.1 + (1 : Int))) ∧
                (K3 (x7.1, (x7.2.1, (x7.2.2.1, (x7.2.2.2.2.2.1, ((x7.2.2.2.2.2.2.1 + (1 : Int)), (x7.2.2.2.2.2.2.2.2.2.2.2.1, (x7.2.2.2.2.2.2.2.2.2.2.2.2.1, ((x7.2.2.2.2.2.2.2.2.2.2.2.2.2.1 ++ (x7.2.2.2.1 :: [])), ()))))))))))
                ((Go.Abs.fitsK Go.IntKind.i64 (x7.2.2.2.2.2.2.2.2.2.2.1 + (1 : Int))) ∧
                (K7 (x7.1, (x7.2.1, (x7.2.2.1, (x7.2.2.2.1, (x7.2.2.2.2.1, (x7.2.2.2.2.2.1, (x7.2.2.2.2.2.2.1, (x7.2.2.2.2.2.2.2.1, (x7.2.2.2.2.2.2.2.2.1, (x7.2.2.2.2.2.2.2.2.2.1, ((x7.2.2.2.2.2.2.2.2.2.2.1 + (1 : Int)), (x7.2.2.2.2.2.2.2.2.2.2.2.1, (x7.2.2.2.2.2.2.2.2.2.2.2.2.1, (x7.2.2.2.2.2.2.2.2.2.2.2.2.2.1, ())))))))))))))))))
               ((Go.Abs.fitsK Go.IntKind.i64 (x7.2.2.2.2.2.2.2.2.2.2.1 + (1 : Int))) ∧
               (K7 (x7.1, (x7.2.1, (x7.2.2.1, (x7.2.2.2.1, (x7.2.2.2.2.1, (x7.2.2.2.2.2.1, (x7.2.2.2.2.2.2.1, (x7.2.2.2.2.2.2.2.1, (x7.2.2.2.2.2.2.2.2.1, (x7.2.2.2.2.2.2.2.2.2.1, ((x7.2.2.2.2.2.2.2.2.2.2.1 + (1 : Int)), (x7.2.2.2.2.2.2.2.2.2.2.2.1, (x7.2.2.2.2.2.2.2.2.2.2.2.2.1, (x7.2.2.2.2.2.2.2.2.2.2.2.2.2.1, ())))))))))))))))))
              ((Go.Abs.fitsK Go.IntKind.i64 (x7.2.2.2.2.2.2.2.2.1 + (1 : Int))) ∧
              (K5 (x7.1, (x7.2.1, (x7.2.2.1, (x7.2.2.2.1, (x7.2.2.2.2.2.1, (x7.2.2.2.2.2.2.1, (x7.2.2.2.2.2.2.2.1, ((x7.2.2.2.2.2.2.2.2.1 + (1 : Int)), (x7.2.2.2.2.2.2.2.2.2.2.2.1, (x7.2.2.2.2.2.2.2.2.2.2.2.2.1, (x7.2.2.2.2.2.2.2.2.2.2.2.2.2.1, ())))))))))))))) ((x5.1, (x5.2.1, (x5.2.2.1, (x5.2.2.2.1, (x5.2.2.2.2.2.2.2.1, (x5.2.2.2.2.1, (x5.2.2.2.2.2.1, (x5.2.2.2.2.2.2.1, (x5.2.2.2.2.2.2.2.1, (x5.2.2.2.2.2.2.2.1, ((0 : Int), (x5.2.2.2.2.2.2.2.2.1, (x5.2.2.2.2.2.2.2.2.2.1, (x5.2.2.2.2.2.2.2.2.2.2.1, ()))))))))))))))))
           ((Go.Abs.fitsK Go.IntKind.i64 (x5.2.2.2.2.2.1 + (1 : Int))) ∧
           (K3 (x5.1, (x5.2.1, (x5.2.2.1, (x5.2.2.2.2.1, ((x5.2.2.2.2.2.1 + (1 : Int)), (x5.2.2.2.2.2.2.2.2.1, (x5.2.2.2.2.2.2.2.2.2.1, (x5.2.2.2.2.2.2.2.2.2.2.1, ()))))))))))) ((x3.1, (x3.2.1, (x3.2.2.1, (x3.2.2.2.2.1, (x3.2.2.2.1, (x3.2.2.2.2.1, ((((List.length x3.2.2.2.2.2.2.1) : Nat) : Int), ((0 : Int), (x3.2.2.2.2.2.1, (x3.2.2.2.2.2.2.1, (x3.2.2.2.2.2.2.2.1, ())))))))))))))
        ((k (Go.Abs.AVal.tup ((Go.Abs.AVal.reg (0 : Nat) Bool.false) :: ((Go.Abs.AVal.int Go.IntKind.i64 (0 : Int)) :: []))) ((Go.Abs.Cont.sl (Go.Abs.Ty.int Go.IntKind.i64) x3.2.2.2.2.2.2.2.1) :: [])))) ((m, (pots, ((Go.Abs.memoP (Go.Abs.King.looksI m pots)), (m, ((0 : Int), (m, (pots, ([], ()))))))))))))
theorem eq27 (m : Int) (pots : List (List Int)) (k : AVal → List Cont → Prop) : awpF (envOf [(55, mkC [v55]), (68, mkC [v68])]) Try.prog kt 27 false Try.f27 (v27.S.enc Unit (m, pots, ())).1 [] k = vc27 m pots k := by kernel_rfl
theorem tx27 : (Try.f27.body.map Code.textsOk).getD true = true := by kernel_rfl

def vc28 (m : Int) (pots : List (List Int)) (k : AVal → List Cont → Prop) : Prop :=
  (Go.Abs.King.v23.p (m, (pots, ()))) ∧
  br (((Go.Abs.King.checkShelf m pots) != (0 : Int)))
   ((Go.Abs.King.v23.p (m, (pots, ()))) ∧
   (k (Go.Abs.AVal.tup ((Go.Abs.AVal.reg (0 : Nat) Bool.false) :: ((Go.Abs.AVal.int Go.IntKind.i64 (Go.Abs.King.checkShelf m pots)) :: []))) ((Go.Abs.Cont.sl (Go.Abs.Ty.int Go.IntKind.i64) []) :: [])))
   (Go.Abs.Loop (σ := (Int × (Int × ((List (List Int)) × ((List Int) × Unit))))) (fun K3 x3 =>
     br ((decide (x3.1 < x3.2.1)))
      (((0 : Int) ≤ x3.2.1) ∧
      (Go.Abs.fitsK Go.IntKind.i64 ((Go.Abs.shlA Go.IntKind.i64 (1 : Int) x3.2.1) - (1 : Int))) ∧
      ((0 : Int) ≤ x3.1) ∧
      (Go.Abs.King.v41.p ((Go.Abs.bitsA Go.BinOp.andNot Go.IntKind.i64 ((Go.Abs.shlA Go.IntKind.i64 (1 : Int) x3.2.1) - (1 : Int)) (Go.Abs.shlA Go.IntKind.i64 (1 : Int) x3.1)), (x3.2.1, ()))) ∧
      Go.Abs.Loop (σ := (Int × (Bool × (Int × (Int × ((List (List Int)) × ((List Int) × ((List Int) × Unit)))))))) (fun K5 x5 =>
        br ((decide (x5.2.2.1 < (((List.length x5.2.2.2.2.1) : Nat) : Int))))
         (Go.Abs.Loop (σ := (Int × (Bool × (Int × (Int × (Int × ((List (List Int)) × ((List Int) × ((List Int) × Unit))))))))) (fun K7 x7 =>
           br ((decide (x7.2.2.2.1 < x7.2.2.1)))
            (br ((x7.2.1 == Bool.false))
             ((Go.Abs.King.v44.p (x7.2.2.2.2.1, (x7.2.2.2.2.2.1, ((x7.1 :: []), (x7.2.2.1, (x7.2.2.2.1, ())))))) ∧
             br (((Go.Abs.King.tells x7.2.2.2.2.2.1 (x7.1 :: []) x7.2.2.1 x7.2.2.2.1) == Bool.true))
              ((Go.Abs.King.v44.p (x7.2.2.2.2.1, (x7.2.2.2.2.2.1, (x7.2.2.2.2.2.2.2.1, (x7.2.2.1, (x7.2.2.2.1, ())))))) ∧
              (Go.Abs.fitsK Go.IntKind.i64 (x7.2.2.2.1 + (1 : Int))) ∧
              (K7 (x7.1, ((Bool.not (Go.Abs.King.tells x7.2.2.2.2.2.1 x7.2.2.2.2.2.2.2.1 x7.2.2.1 x7.2.2.2.1)), (x7.2.2.1, ((x7.2.2.2.1 + (1 : Int)), (x7.2.2.2.2.1, (x7.2.2.2.2.2.1, (x7.2.2.2.2.2.2.1, (x7.2.2.2.2.2.2.2.1, ()))))))))))
              ((Go.Abs.fitsK Go.IntKind.i64 (x7.2.2.2.1 + (1 : Int))) ∧
              (K7 (x7.1, (Bool.false, (x7.2.2.1, ((x7.2.2.2.1 + (1 : Int)), (x7.2.2.2.2.1, (x7.2.2.2.2.2.1, (x7.2.2.2.2.2.2.1, (x7.2.2.2.2.2.2.2.1, ())))))))))))
             ((Go.Abs.fitsK Go.IntKind.i64 (x7.2.2.2.1 + (1 : Int))) ∧
             (K7 (x7.1, (Bool.true, (x7.2.2.1, ((x7.2.2.2.1 + (1 : Int)), (x7.2.2.2.2.1, (x7.2.2.2.2.2.1, (x7.2.2.2.2.2.2.1, (x7.2.2.2.2.2.2.2.1, ())))))))))))
            ((Go.Abs.fitsK Go.IntKind.i64 (x7.2.2.1 + (1 : Int))) ∧
            (K5 (x7.1, (x7.2.1, ((x7.2.2.1 + (1 : Int)), (x7.2.2.2.2.1, (x7.2.2.2.2.2.1, (x7.2.2.2.2.2.2.1, (x7.2.2.2.2.2.2.2.1, ())))))))))) ((x5.1, (x5.2.1, (x5.2.2.1, ((0 : Int), (x5.2.2.2.1, (x5.2.2.2.2.1, (x5.2.2.2.2.2.1, (x5.2.2.2.2.2.2.1, ()))))))))))
         (br (x5.2.1)
          ((((List.length x5.2.2.2.2.2.1) + (List.length (x5.1 :: []))) ≤ Go.Abs.big) ∧
          (Go.Abs.fitsK Go.IntKind.i64 (x5.1 + (1 : Int))) ∧
          (K3 ((x5.1 + (1 : Int)), (x5.2.2.2.1, (x5.2.2.2.2.1, ((x5.2.2.2.2.2.1 ++ (x5.1 :: [])), ()))))))
          ((Go.Abs.fitsK Go.IntKind.i64 (x5.1 + (1 : Int))) ∧
          (K3 ((x5.1 + (1 : Int)), (x5.2.2.2.1, (x5.2.2.2.2.1, (x5.2.2.2.2.2.1, ())))))))) ((x3.1, (Bool.false, ((0 : Int), (x3.2.1, (x3.2.2.1, (x3.2.2.2.1, ((Go.Abs.King.listed (Int.toNat (Go.Abs.bitsA Go.BinOp.andNot Go.IntKind.i64 ((Go.Abs.shlA Go.IntKind.i64 (1 : Int) x3.2.1) - (1 : Int)) (Go.Abs.shlA Go.IntKind.i64 (1 : Int) x3.1))) (Int.toNat x3.2.1)), ())))))))))
      ((k (Go.Abs.AVal.tup ((Go.Abs.AVal.reg (0 : Nat) Bool.false) :: ((Go.Abs.AVal.int Go.IntKind.i64 (0 : Int)) :: []))) ((Go.Abs.Cont.sl (Go.Abs.Ty.int Go.IntKind.i64) x3.2.2.2.1) :: [])))) (((0 : Int), (m, (pots, ([], ()))))))
theorem eq28 (m : Int) (pots : List (List Int)) (k : AVal → List Cont → Prop) : awpF (envOf [(23, mkC [v23]), (41, mkC [v41]), (44, mkC [v44])]) Try.prog kt 28 false Try.f28 (v28.S.enc Unit (m, pots, ())).1 [] k = vc28 m pots k := by kernel_rfl
theorem tx28 : (Try.f28.body.map Code.textsOk).getD true = true := by kernel_rfl

def vc25 (m : Int) (pots : List (List Int)) (k : AVal → List Cont → Prop) : Prop :=
  (Go.Abs.King.v55.p (m, (pots, ()))) ∧
  br ((Go.Abs.King.csIs m pots (6 : Int)))
   ((k (Go.Abs.AVal.tup ((Go.Abs.AVal.reg (0 : Nat) Bool.false) :: ((Go.Abs.AVal.int Go.IntKind.i64 (6 : Int)) :: []))) ((Go.Abs.Cont.sl (Go.Abs.Ty.slice (Go.Abs.Ty.int Go.IntKind.i64)) []) :: [])))
   (br ((Go.Abs.King.csIs m pots (15 : Int)))
    ((k (Go.Abs.AVal.tup ((Go.Abs.AVal.reg (0 : Nat) Bool.false) :: ((Go.Abs.AVal.int Go.IntKind.i64 (15 : Int)) :: []))) ((Go.Abs.Cont.sl (Go.Abs.Ty.slice (Go.Abs.Ty.int Go.IntKind.i64)) []) :: [])))
    (br ((Go.Abs.King.csIs m pots (3 : Int)))
     ((k (Go.Abs.AVal.tup ((Go.Abs.AVal.reg (0 : Nat) Bool.false) :: ((Go.Abs.AVal.int Go.IntKind.i64 (3 : Int)) :: []))) ((Go.Abs.Cont.sl (Go.Abs.Ty.slice (Go.Abs.Ty.int Go.IntKind.i64)) []) :: [])))
     ((Go.Abs.fitsK Go.IntKind.i64 (m + (1 : Int))) ∧
     Go.Abs.Loop (σ := (Int × ((List (List Int)) × (Go.Abs.SemP × (Int × (Int × Unit)))))) (fun K3 x3 =>
       br ((decide (x3.2.2.2.2.1 < x3.2.2.2.1)))
        ((Go.Abs.King.v66.p (x3.1, (x3.2.1, (x3.2.2.1, ([], (x3.2.2.2.2.1, ())))))) ∧
        br ((decide ((((List.length (Go.Abs.King.listsI x3.1 x3.2.1 [] x3.2.2.2.2.1)) : Nat) : Int) > (0 : Int))))
         ((k (Go.Abs.AVal.tup ((Go.Abs.AVal.reg (0 : Nat) Bool.false) :: ((Go.Abs.AVal.int Go.IntKind.i64 (0 : Int)) :: []))) ((Go.Abs.Cont.sl (Go.Abs.Ty.slice (Go.Abs.Ty.int Go.IntKind.i64)) (Go.Abs.King.listsI x3.1 x3.2.1 [] x3.2.2.2.2.1)) :: [])))
         ((Go.Abs.fitsK Go.IntKind.i64 (x3.2.2.2.2.1 + (1 : Int))) ∧
         (K3 (x3.1, (x3.2.1, (x3.2.2.1, (x3.2.2.2.1, ((x3.2.2.2.2.1 + (1 : Int)), ()))))))))
        ((k (Go.Abs.AVal.tup ((Go.Abs.AVal.reg (0 : Nat) Bool.false) :: ((Go.Abs.AVal.int Go.IntKind.i64 (27 : Int)) :: []))) ((Go.Abs.Cont.sl (Go.Abs.Ty.slice (Go.Abs.Ty.int Go.IntKind.i64)) []) :: [])))) ((m, (pots, ((Go.Abs.memoP (Go.Abs.King.looksI m pots)), ((m + (1 : Int)), ((0 : Int), ())))))))))
theorem eq25 (m : Int) (pots : List (List Int)) (k : AVal → List Cont → Prop) : awpF (envOf [(55, mkC [v55]), (66, mkC [v66])]) Try.prog kt 25 false Try.f25 (v25.S.enc Unit (m, pots, ())).1 [] k = vc25 m pots k := by kernel_rfl
theorem tx25 : (Try.f25.body.map Code.textsOk).getD true = true := by kernel_rfl

def vc70 (m : Int) (pots : List (List Int)) (q : SemP) (bits : Int) (k : AVal → List Cont → Prop) : Prop :=
  (Go.Abs.King.v69.p (m, (pots, (q, (bits, ()))))) ∧
  Go.Abs.Loop (σ := (Int × ((List (List Int)) × (Go.Abs.SemP × (Int × (Int × (Int × (Int × Unit)))))))) (fun K5 x5 =>
    br ((decide (x5.2.2.2.2.2.1 < x5.2.2.2.2.1)))
     ((Go.Abs.King.v87.p (x5.1, (x5.2.1, (x5.2.2.1, (x5.2.2.2.2.2.2.1, (x5.2.2.2.2.2.1, ())))))) ∧
     br (((decide ((Go.Abs.King.worstI x5.1 x5.2.1 x5.2.2.2.2.2.2.1 x5.2.2.2.2.2.1) < (0 : Int))) == Bool.false))
      (br ((decide ((Go.Abs.King.worstI x5.1 x5.2.1 x5.2.2.2.2.2.2.1 x5.2.2.2.2.2.1) ≥ x5.2.2.2.1)))
       ((Go.Abs.fitsK Go.IntKind.i64 (x5.2.2.2.2.2.1 + (1 : Int))) ∧
       (K5 (x5.1, (x5.2.1, (x5.2.2.1, (x5.2.2.2.1, (x5.2.2.2.2.1, ((x5.2.2.2.2.2.1 + (1 : Int)), (x5.2.2.2.2.2.2.1, ())))))))))
       ((k (Go.Abs.AVal.int Go.IntKind.i64 x5.2.2.2.2.2.1) [])))
      ((Go.Abs.fitsK Go.IntKind.i64 (x5.2.2.2.2.2.1 + (1 : Int))) ∧
      (K5 (x5.1, (x5.2.1, (x5.2.2.1, (x5.2.2.2.1, (x5.2.2.2.2.1, ((x5.2.2.2.2.2.1 + (1 : Int)), (x5.2.2.2.2.2.2.1, ()))))))))))
     ((k (Go.Abs.AVal.int Go.IntKind.i64 (0 : Int)) []))) ((m, (pots, (q, ((Go.Abs.King.looksI m pots bits), (m, ((0 : Int), (bits, ()))))))))
theorem eq70 (m : Int) (pots : List (List Int)) (q : SemP) (bits : Int) (k : AVal → List Cont → Prop) : awpF (envOf [(69, mkC [v69]), (87, mkC [v87])]) Try.prog kt 70 false Try.f70 (v70.S.enc Unit (m, pots, q, bits, ())).1 [] k = vc70 m pots q bits k := by kernel_rfl
theorem tx70 : (Try.f70.body.map Code.textsOk).getD true = true := by kernel_rfl

def vc30 (m : Int) (pots : List (List Int)) (seen : List Int) (k : AVal → List Cont → Prop) : Prop :=
  (Go.Abs.King.v59.p (m, (pots, (seen, ())))) ∧
  br ((Go.Abs.King.seIs m pots seen (6 : Int)))
   ((k (Go.Abs.AVal.tup ((Go.Abs.AVal.int Go.IntKind.i64 (0 : Int)) :: ((Go.Abs.AVal.int Go.IntKind.i64 (6 : Int)) :: []))) []))
   (br ((Go.Abs.King.seIs m pots seen (15 : Int)))
    ((k (Go.Abs.AVal.tup ((Go.Abs.AVal.int Go.IntKind.i64 (0 : Int)) :: ((Go.Abs.AVal.int Go.IntKind.i64 (15 : Int)) :: []))) []))
    (br ((Go.Abs.King.seIs m pots seen (3 : Int)))
     ((k (Go.Abs.AVal.tup ((Go.Abs.AVal.int Go.IntKind.i64 (0 : Int)) :: ((Go.Abs.AVal.int Go.IntKind.i64 (3 : Int)) :: []))) []))
     ((Go.Abs.King.v69.p (m, (pots, ((Go.Abs.memoP (Go.Abs.King.looksI m pots)), ((((Go.Abs.King.agree pots (Int.toNat m) seen) : Nat) : Int), ()))))) ∧
     (k (Go.Abs.AVal.tup ((Go.Abs.AVal.int Go.IntKind.i64 (Go.Abs.King.looksI m pots (((Go.Abs.King.agree pots (Int.toNat m) seen) : Nat) : Int))) :: ((Go.Abs.AVal.int Go.IntKind.i64 (0 : Int)) :: []))) []))))
theorem eq30 (m : Int) (pots : List (List Int)) (seen : List Int) (k : AVal → List Cont → Prop) : awpF (envOf [(59, mkC [v59]), (69, mkC [v69])]) Try.prog kt 30 false Try.f30 (v30.S.enc Unit (m, pots, seen, ())).1 [] k = vc30 m pots seen k := by kernel_rfl
theorem tx30 : (Try.f30.body.map Code.textsOk).getD true = true := by kernel_rfl

def vc32 (m : Int) (pots : List (List Int)) (seen : List Int) (k : AVal → List Cont → Prop) : Prop :=
  (Go.Abs.King.v59.p (m, (pots, (seen, ())))) ∧
  br ((Go.Abs.King.seIs m pots seen (6 : Int)))
   ((k (Go.Abs.AVal.tup ((Go.Abs.AVal.int Go.IntKind.i64 (0 : Int)) :: ((Go.Abs.AVal.int Go.IntKind.i64 (6 : Int)) :: []))) []))
   (br ((Go.Abs.King.seIs m pots seen (15 : Int)))
    ((k (Go.Abs.AVal.tup ((Go.Abs.AVal.int Go.IntKind.i64 (0 : Int)) :: ((Go.Abs.AVal.int Go.IntKind.i64 (15 : Int)) :: []))) []))
    (br ((Go.Abs.King.seIs m pots seen (3 : Int)))
     ((k (Go.Abs.AVal.tup ((Go.Abs.AVal.int Go.IntKind.i64 (0 : Int)) :: ((Go.Abs.AVal.int Go.IntKind.i64 (3 : Int)) :: []))) []))
     ((Go.Abs.King.v69.p (m, (pots, ((Go.Abs.memoP (Go.Abs.King.looksI m pots)), ((((Go.Abs.King.agree pots (Int.toNat m) seen) : Nat) : Int), ()))))) ∧
     br (((Go.Abs.King.looksI m pots (((Go.Abs.King.agree pots (Int.toNat m) seen) : Nat) : Int)) == (0 : Int)))
      ((k (Go.Abs.AVal.tup ((Go.Abs.AVal.int Go.IntKind.i64 (0 : Int)) :: ((Go.Abs.AVal.int Go.IntKind.i64 (5 : Int)) :: []))) []))
      (br (((Go.Abs.King.looksI m pots (((Go.Abs.King.agree pots (Int.toNat m) seen) : Nat) : Int)) == (Neg.neg (1 : Int))))
       ((k (Go.Abs.AVal.tup ((Go.Abs.AVal.int Go.IntKind.i64 (0 : Int)) :: ((Go.Abs.AVal.int Go.IntKind.i64 (27 : Int)) :: []))) []))
       ((Go.Abs.King.v70.p (m, (pots, ((Go.Abs.memoP (Go.Abs.King.looksI m pots)), ((((Go.Abs.King.agree pots (Int.toNat m) seen) : Nat) : Int), ()))))) ∧
       (k (Go.Abs.AVal.tup ((Go.Abs.AVal.int Go.IntKind.i64 (Go.Abs.King.firstI m pots (((Go.Abs.King.agree pots (Int.toNat m) seen) : Nat) : Int))) :: ((Go.Abs.AVal.int Go.IntKind.i64 (0 : Int)) :: []))) []))))))
theorem eq32 (m : Int) (pots : List (List Int)) (seen : List Int) (k : AVal → List Cont → Prop) : awpF (envOf [(59, mkC [v59]), (69, mkC [v69]), (70, mkC [v70])]) Try.prog kt 32 false Try.f32 (v32.S.enc Unit (m, pots, seen, ())).1 [] k = vc32 m pots seen k := by kernel_rfl
theorem tx32 : (Try.f32.body.map Code.textsOk).getD true = true := by kernel_rfl

end Go.Abs.King
end

section
/- The king's functions keep their contracts: seventh part. -/
open Go.Proofs
set_option maxRecDepth 100000
set_option linter.unusedVariables false
namespace Go.Abs.King

theorem k94 (hG : Good Try.prog (envOf [])) : v94.Kept Try.prog 94 := by
  rintro ⟨m, pots, q, bits, mark, ⟨⟩⟩ hpre k hk
  refine aspec hmix hG Try.func94 tx94 (Eq.mpr (eq94 m pots q bits mark k) ?_)
  exact hk

theorem k89 (hG : Good Try.prog (envOf [])) : v89.Kept Try.prog 89 := by
  rintro ⟨x, y, ⟨⟩⟩ hpre k hk
  change Int at x y
  refine aspec hmix hG Try.func89 tx89 (Eq.mpr (eq89 x y k) ?_)
  replace hk : k (.bool (betterB x y)) [] := hk
  unfold vc89
  rw [br_true, br_false]
  unfold betterB at hk
  refine ⟨fun h => ⟨fun h2 => ?_, fun h2 => ?_⟩, fun h => ?_⟩
  · rw [decide_eq_true h, decide_eq_false h2] at hk; exact hk
  · rw [decide_eq_true h, decide_eq_true h2] at hk; exact hk
  · rw [decide_eq_false h] at hk; exact hk

theorem k88 (hG : Good Try.prog (envOf [(89, mkC [v89])])) : v88.Kept Try.prog 88 := by
  rintro ⟨l, ⟨⟩⟩ hpre k hk
  change List Int at l
  refine aspec hmix hG Try.func88 tx88 (Eq.mpr (eq88 l k) ?_)
  replace hk : k (rI (bestL l)) [] := hk
  obtain ⟨h1, h2⟩ := hpre
  have h1 : l.length ≤ big60 := h1
  have h2 : 0 < l.length := h2
  simp only [big60] at h1
  cases l with
  | nil => simp at h2
  | cons a l =>
    simp only [List.length_cons] at h1
    unfold vc88
    refine ⟨⟨by omega, by simp⟩, ⟨by omega, by simp only [List.length_cons]; omega⟩, ?_⟩
    refine Loop.upto (fun i => ((l.take i).foldl (fun o x => if betterB x o then x else o) a, l, ((l.length : Nat) : Int), (i : Int), ())) (fun i => True) l.length rfl trivial ?_ ?_
    · intro i K hi _ hK
      have hK := hK trivial
      dsimp only
      rw [br_decide]
      refine ⟨fun _ => ⟨⟨by omega, by omega⟩, trivial, ?_⟩, fun h => absurd hi (by omega)⟩
      simp only [Int.toNat_natCast]
      rw [List.take_succ_eq_append_getElem hi, List.foldl_append] at hK
      simp only [List.foldl_cons, List.foldl_nil] at hK
      refine br_intro (fun h => ⟨fits64 (by omega) (by omega), ?_⟩) (fun h => ⟨fits64 (by omega) (by omega), ?_⟩)
      · rw [if_pos h] at hK; exact hK
      · rw [if_neg (by rw [h]; simp)] at hK; exact hK
    · intro K _
      dsimp only
      rw [br_decide]
      refine ⟨fun h => absurd h (by omega), fun _ => ?_⟩
      rw [List.take_length]
      exact hk

theorem k67 (hG : Good Try.prog (envOf [])) : v67.Kept Try.prog 67 := by
  rintro ⟨a, b, ⟨⟩⟩ hpre k hk
  change List Int at a b
  refine aspec hmix hG Try.func67 tx67 (Eq.mpr (eq67 a b k) ?_)
  replace hk : k (.bool (beforeL a b)) [] := hk
  obtain ⟨h1, h2⟩ := hpre
  have h1 : a.length ≤ big60 := h1
  simp only [big60] at h1
  have hcons : ∀ (i : Nat) (ha : i < a.length) (hb : i < b.length), beforeL (a.drop i) (b.drop i) = if a[i] = b[i] then beforeL (a.drop (i + 1)) (b.drop (i + 1)) else decide (a[i] < b[i]) := by
    intro i ha hb
    rw [List.drop_eq_getElem_cons ha, List.drop_eq_getElem_cons hb]
    rfl
  unfold vc67
  refine Loop.upto (fun i => (a, b, (i : Int), ())) (fun i => beforeL a b = beforeL (a.drop i) (b.drop i)) a.length rfl rfl ?_ ?_
  · intro i K hi hp hK
    dsimp only
    rw [br_true, br_decide]
    refine ⟨fun _ => ⟨fun hb => ?_, fun hb => ?_⟩, fun h => absurd hi (by omega)⟩
    · have hb' : i < b.length := by omega
      simp only [Int.toNat_natCast]
      refine ⟨⟨by omega, hi⟩, ⟨by omega, hb'⟩, ?_⟩
      rw [br_bne]
      rw [hcons i hi hb'] at hp
      refine ⟨fun h => ⟨⟨by omega, hi⟩, ⟨by omega, hb'⟩, ?_⟩, fun h => ⟨fits64 (by omega) (by omega), hK ?_⟩⟩
      · rw [if_neg h] at hp; rw [hp] at hk; exact hk
      · rw [if_pos h] at hp; exact hp
    · have hd : b.drop i = [] := List.drop_eq_nil_of_le (by omega)
      rw [hd] at hp
      have : beforeL (a.drop i) [] = false := by cases (a.drop i) <;> rfl
      rw [hp, this] at hk; exact hk
  · intro K hp
    dsimp only
    rw [br_true]
    refine ⟨fun h => absurd h (by omega), fun _ => ?_⟩
    rw [List.drop_length] at hp
    rw [hp] at hk; exact hk

/-! ### counting bits -/
theorem k98 (hG : Good Try.prog (envOf [])) : v98.Kept Try.prog 98 := by
  rintro ⟨x, ⟨⟩⟩ hpre k hk
  change Int at x
  refine aspec hmix hG Try.func98 tx98 (Eq.mpr (eq98 x k) ?_)
  replace hk : k (rI (ones x)) [] := hk
  have hh : 0 ≤ x ∧ x < 256 := hpre
  clear hpre
  obtain ⟨n, rfl⟩ := Int.eq_ofNat_of_zero_le hh.1
  have hn : n < 256 := by omega
  clear hh
  unfold vc98
  refine ⟨by omega, ?_, by omega, ?_, by omega, ?_, by omega, ?_, by omega, ?_, by omega, ?_, ?_, ?_⟩
  · clear hk; revert n; unfold fitsK; decide +kernel
  · clear hk; revert n; unfold fitsK; decide +kernel
  · clear hk; revert n; unfold fitsK; decide +kernel
  · clear hk; revert n; unfold fitsK; decide +kernel
  · clear hk; revert n; unfold fitsK; decide +kernel
  · clear hk; revert n; unfold fitsK; decide +kernel
  · clear hk; revert n; unfold fitsK; decide +kernel
  · refine cast (congrArg (fun z => k (.int .i64 z) []) ?_) hk
    clear hk; revert n; decide +kernel

theorem k86 (hG : Good Try.prog (envOf [(98, mkC [v98])])) : v86.Kept Try.prog 86 := by
  rintro ⟨x, ⟨⟩⟩ hpre k hk
  change Int at x
  refine aspec hmix hG Try.func86 tx86 (Eq.mpr (eq86 x k) ?_)
  exact ⟨hpre, hk⟩
end Go.Abs.King
end

