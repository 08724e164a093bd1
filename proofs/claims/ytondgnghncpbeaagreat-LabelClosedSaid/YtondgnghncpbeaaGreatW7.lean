/- Part 7 of the road to this seat's statements: lemmas about a small interpreter over the model's code, and about the functions that it is used on. No condition of its own. -/
import Derived.Test.YtondgnghncpbeaaGreatProg
import Derived.Shelf.SlLaysE
import Derived.Shelf.Lays8
import Derived.Shelf.SlicesE.Delete
import Derived.Shelf.SlicesE.Reverse
import Derived.Shelf.Spec.SlicesGrow
import Derived.Test.YtondgnghncpbeaaGreatW6

section
/- Conditions and their equations, printed by a program. -/
open Go.Proofs
set_option maxRecDepth 100000
set_option linter.unusedVariables false
namespace Go.Abs.Label
def vc33 (w : Int) (rs : List (List Int × Int)) (l : List Int) (x : Int) (s : List Int) (k : AVal → List Cont → Prop) : Prop :=
  (Go.Abs.Label.v42.p (w, (rs, (l, ())))) ∧
  br ((Go.Abs.Label.leIs w rs l (6 : Int)))
   ((k (Go.Abs.AVal.int Go.IntKind.i64 (6 : Int)) []))
   (br ((Go.Abs.Label.leIs w rs l (2 : Int)))
    ((k (Go.Abs.AVal.int Go.IntKind.i64 (2 : Int)) []))
    (br ((Go.Abs.Label.leIs w rs l (3 : Int)))
     ((k (Go.Abs.AVal.int Go.IntKind.i64 (3 : Int)) []))
     ((Go.Abs.fitsK Go.IntKind.i64 (w - (1 : Int))) ∧
     (Go.Abs.Label.v50.p ((-(1 : Int) : Int), ((w - (1 : Int)), ((x :: ([] : List Int)), ())))) ∧
     br ((Bool.not (Bool.not (Go.Abs.Label.anyOut (-(1 : Int) : Int) (w - (1 : Int)) (x :: ([] : List Int))))))
      ((k (Go.Abs.AVal.int Go.IntKind.i64 (3 : Int)) []))
      ((Go.Abs.fitsK Go.IntKind.i64 ((((List.length rs) : Nat) : Int) - (1 : Int))) ∧
      (Go.Abs.Label.v50.p ((0 : Int), (((((List.length rs) : Nat) : Int) - (1 : Int)), (s, ())))) ∧
      br ((Bool.not (Bool.not (Go.Abs.Label.anyOut (0 : Int) ((((List.length rs) : Nat) : Int) - (1 : Int)) s))))
       ((k (Go.Abs.AVal.int Go.IntKind.i64 (2 : Int)) []))
       (Go.Abs.Loop (σ := (Int × ((List Int) × (Int × ((List ((List Int) × Int)) × ((List Int) × (Int × (Int × (Int × Unit))))))))) (fun K6 x6 =>
         br ((decide (x6.2.2.2.2.2.2.1 < x6.2.2.2.2.2.1)))
          (∃ h8 : (((0 : Int) ≤ x6.2.2.2.2.2.2.1) ∧ ((Int.toNat x6.2.2.2.2.2.2.1) < (List.length x6.2.2.2.2.1))),
          ∃ h9 : (((0 : Int) ≤ (x6.2.2.2.2.1[(Int.toNat x6.2.2.2.2.2.2.1)]'h8.2)) ∧ ((Int.toNat (x6.2.2.2.2.1[(Int.toNat x6.2.2.2.2.2.2.1)]'h8.2)) < (List.length x6.2.2.2.1))),
          br (((decide ((x6.2.2.2.1[(Int.toNat (x6.2.2.2.2.1[(Int.toNat x6.2.2.2.2.2.2.1)]'h8.2))]'h9.2).2 < (0 : Int))) == Bool.true))
           (br (((decide (x6.1 ≥ (0 : Int))) == Bool.false))
            ((Go.Abs.fitsK Go.IntKind.i64 ((((List.length x6.2.1) : Nat) : Int) - (1 : Int))) ∧
            br ((decide (x6.2.2.2.2.2.2.1 < ((((List.length x6.2.1) : Nat) : Int) - (1 : Int)))))
             (br ((decide (x6.2.2.2.2.2.2.1 < ((((List.length x6.2.1) : Nat) : Int) - (1 : Int)))))
              ((k (Go.Abs.AVal.int Go.IntKind.i64 (16 : Int)) []))
              (br ((decide ((x6.2.2.2.1[(Int.toNat (x6.2.2.2.2.1[(Int.toNat x6.2.2.2.2.2.2.1)]'h8.2))]'h9.2).2 < (0 : Int))))
               ((k (Go.Abs.AVal.int Go.IntKind.i64 (0 : Int)) []))
               ((Go.Abs.Label.v57.p (x6.2.2.2.2.2.2.2.1, ((x6.2.2.2.1[(Int.toNat (x6.2.2.2.2.1[(Int.toNat x6.2.2.2.2.2.2.1)]'h8.2))]'h9.2).2, ()))) ∧
               (Go.Abs.fitsK Go.IntKind.i64 (x6.2.2.2.2.2.2.1 + (1 : Int))) ∧
               (K6 (x6.1, (x6.2.1, (x6.2.2.1, (x6.2.2.2.1, (x6.2.2.2.2.1, (x6.2.2.2.2.2.1, ((x6.2.2.2.2.2.2.1 + (1 : Int)), ((Go.Abs.Label.andI x6.2.2.2.2.2.2.2.1 (x6.2.2.2.1[(Int.toNat (x6.2.2.2.2.1[(Int.toNat x6.2.2.2.2.2.2.1)]'h8.2))]'h9.2).2), ()))))))))))))
             ((Go.Abs.Label.v73.p ((x6.2.2.2.1[(Int.toNat (x6.2.2.2.2.1[(Int.toNat x6.2.2.2.2.2.2.1)]'h8.2))]'h9.2).1, ())) ∧
             (Go.Abs.Label.v59.p (x6.2.2.2.2.2.2.2.1, ((Go.Abs.Label.bitsI (x6.2.2.2.1[(Int.toNat (x6.2.2.2.2.1[(Int.toNat x6.2.2.2.2.2.2.1)]'h8.2))]'h9.2).1), ()))) ∧
             br ((Bool.not (Go.Abs.Label.hasI x6.2.2.2.2.2.2.2.1 (Go.Abs.Label.bitsI (x6.2.2.2.1[(Int.toNat (x6.2.2.2.2.1[(Int.toNat x6.2.2.2.2.2.2.1)]'h8.2))]'h9.2).1))))
              ((k (Go.Abs.AVal.int Go.IntKind.i64 (16 : Int)) []))
              (br ((decide ((x6.2.2.2.1[(Int.toNat (x6.2.2.2.2.1[(Int.toNat x6.2.2.2.2.2.2.1)]'h8.2))]'h9.2).2 < (0 : Int))))
               ((k (Go.Abs.AVal.int Go.IntKind.i64 (0 : Int)) []))
               ((Go.Abs.Label.v57.p (x6.2.2.2.2.2.2.2.1, ((x6.2.2.2.1[(Int.toNat (x6.2.2.2.2.1[(Int.toNat x6.2.2.2.2.2.2.1)]'h8.2))]'h9.2).2, ()))) ∧
               (Go.Abs.fitsK Go.IntKind.i64 (x6.2.2.2.2.2.2.1 + (1 : Int))) ∧
               (K6 (x6.1, (x6.2.1, (x6.2.2.1, (x6.2.2.2.1, (x6.2.2.2.2.1, (x6.2.2.2.2.2.1, ((x6.2.2.2.2.2.2.1 + (1 : Int)), ((Go.Abs.Label.andI x6.2.2.2.2.2.2.2.1 (x6.2.2.2.1[(Int.toNat (x6.2.2.2.2.1[(Int.toNat x6.2.2.2.2.2.2.1)]'h8.2))]'h9.2).2), ())))))))))))))
            ((k (Go.Abs.AVal.int Go.IntKind.i64 (16 : Int)) [])))
           ((Go.Abs.Label.v73.p ((x6.2.2.2.1[(Int.toNat (x6.2.2.2.2.1[(Int.toNat x6.2.2.2.2.2.2.1)]'h8.2))]'h9.2).1, ())) ∧
           (Go.Abs.Label.v59.p (x6.2.2.2.2.2.2.2.1, ((Go.Abs.Label.bitsI (x6.2.2.2.1[(Int.toNat (x6.2.2.2.2.1[(Int.toNat x6.2.2.2.2.2.2.1)]'h8.2))]'h9.2).1), ()))) ∧
           br ((Bool.not (Go.Abs.Label.hasI x6.2.2.2.2.2.2.2.1 (Go.Abs.Label.bitsI (x6.2.2.2.1[(Int.toNat (x6.2.2.2.2.1[(Int.toNat x6.2.2.2.2.2.2.1)]'h8.2))]'h9.2).1))))
            ((k (Go.Abs.AVal.int Go.IntKind.i64 (16 : Int)) []))
            (br ((decide ((x6.2.2.2.1[(Int.toNat (x6.2.2.2.2.1[(Int.toNat x6.2.2.2.2.2.2.1)]'h8.2))]'h9.2).2 < (0 : Int))))
             ((k (Go.Abs.AVal.int Go.IntKind.i64 (0 : Int)) []))
             ((Go.Abs.Label.v57.p (x6.2.2.2.2.2.2.2.1, ((x6.2.2.2.1[(Int.toNat (x6.2.2.2.2.1[(Int.toNat x6.2.2.2.2.2.2.1)]'h8.2))]'h9.2).2, ()))) ∧
             (Go.Abs.fitsK Go.IntKind.i64 (x6.2.2.2.2.2.2.1 + (1 : Int))) ∧
             (K6 (x6.1, (x6.2.1, (x6.2.2.1, (x6.2.2.2.1, (x6.2.2.2.2.1, (x6.2.2.2.2.2.1, ((x6.2.2.2.2.2.2.1 + (1 : Int)), ((Go.Abs.Label.andI x6.2.2.2.2.2.2.2.1 (x6.2.2.2.1[(Int.toNat (x6.2.2.2.2.1[(Int.toNat x6.2.2.2.2.2.2.1)]'h8.2))]'h9.2).2), ())))))))))))))
          (br (((decide (x6.1 < (0 : Int))) == Bool.false))
           ((Go.Abs.Label.v57.p ((0 : Int), (x6.1, ()))) ∧
           (Go.Abs.Label.v59.p (x6.2.2.2.2.2.2.2.1, ((Go.Abs.Label.andI (0 : Int) x6.1), ()))) ∧
           br ((Bool.not (Go.Abs.Label.hasI x6.2.2.2.2.2.2.2.1 (Go.Abs.Label.andI (0 : Int) x6.1))))
            ((k (Go.Abs.AVal.int Go.IntKind.i64 (14 : Int)) []))
            ((k (Go.Abs.AVal.int Go.IntKind.i64 (0 : Int)) [])))
           ((k (Go.Abs.AVal.int Go.IntKind.i64 (14 : Int)) [])))) ((x, (s, (w, (rs, (s, ((((List.length s) : Nat) : Int), ((0 : Int), ((Go.Abs.Label.bitsI l), ()))))))))))))))
theorem eq33 (w : Int) (rs : List (List Int × Int)) (l : List Int) (x : Int) (s : List Int) (k : AVal → List Cont → Prop) : awpF (envOf [(42, mkC [v42]), (50, mkC [v50]), (73, mkC [v73]), (59, mkC [v59]), (57, mkC [v57])]) Tryz.prog kt 33 false Tryz.f33 (v33.args (w, rs, l, x, s, ())) (v33.conts (w, rs, l, x, s, ())) k = vc33 w rs l x s k := by kernel_rfl
theorem tx33 : (Tryz.f33.body.map Code.textsOk).getD true = true := by kernel_rfl

def vc40 (w : Int) (rs : List (List Int × Int)) (l : List Int) (x : Int) (s : List Int) (k : AVal → List Cont → Prop) : Prop :=
  (Go.Abs.Label.v45.p (w, (rs, (l, ())))) ∧
  br (((Go.Abs.Label.labelErr w rs l) != (0 : Int)))
   ((Go.Abs.Label.v45.p (w, (rs, (l, ())))) ∧
   (k (Go.Abs.AVal.int Go.IntKind.i64 (Go.Abs.Label.labelErr w rs l)) []))
   (br (((decide (x < (-(1 : Int) : Int))) == Bool.false))
    (br ((decide (x ≥ w)))
     ((k (Go.Abs.AVal.int Go.IntKind.i64 (3 : Int)) []))
     (Go.Abs.Loop (σ := ((List Int) × (Int × ((List Int) × (Int × (Int × ((List ((List Int) × Int)) × Unit))))))) (fun K6 x6 =>
       br ((decide (x6.2.2.2.1 < (((List.length x6.2.2.1) : Nat) : Int))))
        (∃ h8 : (((0 : Int) ≤ x6.2.2.2.1) ∧ ((Int.toNat x6.2.2.2.1) < (List.length x6.2.2.1))),
        br (((decide ((x6.2.2.1[(Int.toNat x6.2.2.2.1)]'h8.2) < (0 : Int))) == Bool.false))
         (∃ h9 : (((0 : Int) ≤ x6.2.2.2.1) ∧ ((Int.toNat x6.2.2.2.1) < (List.length x6.2.2.1))),
         br ((decide ((x6.2.2.1[(Int.toNat x6.2.2.2.1)]'h9.2) ≥ (((List.length x6.2.2.2.2.2.1) : Nat) : Int))))
          ((k (Go.Abs.AVal.int Go.IntKind.i64 (2 : Int)) []))
          ((Go.Abs.fitsK Go.IntKind.i64 (x6.2.2.2.1 + (1 : Int))) ∧
          (K6 (x6.1, (x6.2.1, (x6.2.2.1, ((x6.2.2.2.1 + (1 : Int)), (x6.2.2.2.2.1, (x6.2.2.2.2.2.1, ())))))))))
         ((k (Go.Abs.AVal.int Go.IntKind.i64 (2 : Int)) [])))
        ((Go.Abs.Label.v47.p (x6.1, ())) ∧
        Go.Abs.Loop (σ := (Int × ((List Int) × (Int × (Bool × (Int × (Int × ((List ((List Int) × Int)) × Unit)))))))) (fun K8 x8 =>
          br ((decide (x8.2.2.2.2.1 < (((List.length x8.2.1) : Nat) : Int))))
           (∃ h10 : (((0 : Int) ≤ x8.2.2.2.2.1) ∧ ((Int.toNat x8.2.2.2.2.1) < (List.length x8.2.1))),
           ∃ h11 : (((0 : Int) ≤ (x8.2.1[(Int.toNat x8.2.2.2.2.1)]'h10.2)) ∧ ((Int.toNat (x8.2.1[(Int.toNat x8.2.2.2.2.1)]'h10.2)) < (List.length x8.2.2.2.2.2.2.1))),
           (Go.Abs.Label.v47.p ((x8.2.2.2.2.2.2.1[(Int.toNat (x8.2.1[(Int.toNat x8.2.2.2.2.1)]'h10.2))]'h11.2).1, ())) ∧
           br (((decide ((x8.2.2.2.2.2.2.1[(Int.toNat (x8.2.1[(Int.toNat x8.2.2.2.2.1)]'h10.2))]'h11.2).2 < (0 : Int))) == Bool.true))
            (br (((decide (x8.1 ≥ (0 : Int))) == Bool.false))
             ((Go.Abs.fitsK Go.IntKind.i64 ((((List.length x8.2.1) : Nat) : Int) - (1 : Int))) ∧
             br (((decide (x8.2.2.2.2.1 < ((((List.length x8.2.1) : Nat) : Int) - (1 : Int)))) == Bool.false))
              (br (((Go.Abs.bitsA Go.BinOp.and Go.IntKind.i64 (Go.Abs.Label.bitsI (x8.2.2.2.2.2.2.1[(Int.toNat (x8.2.1[(Int.toNat x8.2.2.2.2.1)]'h10.2))]'h11.2).1) x8.2.2.1) != (Go.Abs.Label.bitsI (x8.2.2.2.2.2.2.1[(Int.toNat (x8.2.1[(Int.toNat x8.2.2.2.2.1)]'h10.2))]'h11.2).1)))
               ((k (Go.Abs.AVal.int Go.IntKind.i64 (16 : Int)) []))
               (br ((decide ((x8.2.2.2.2.2.2.1[(Int.toNat (x8.2.1[(Int.toNat x8.2.2.2.2.1)]'h10.2))]'h11.2).2 < (0 : Int))))
                ((Go.Abs.fitsK Go.IntKind.i64 (x8.2.2.2.2.1 + (1 : Int))) ∧
                (K8 (x8.1, (x8.2.1, (x8.2.2.1, (Bool.true, ((x8.2.2.2.2.1 + (1 : Int)), (x8.2.2.2.2.2.1, (x8.2.2.2.2.2.2.1, ())))))))))
                (((0 : Int) ≤ (x8.2.2.2.2.2.2.1[(Int.toNat (x8.2.1[(Int.toNat x8.2.2.2.2.1)]'h10.2))]'h11.2).2) ∧
                (Go.Abs.fitsK Go.IntKind.i64 (x8.2.2.2.2.1 + (1 : Int))) ∧
                (K8 (x8.1, (x8.2.1, ((Go.Abs.bitsA Go.BinOp.or Go.IntKind.i64 x8.2.2.1 (Go.Abs.shlA Go.IntKind.i64 (1 : Int) (x8.2.2.2.2.2.2.1[(Int.toNat (x8.2.1[(Int.toNat x8.2.2.2.2.1)]'h10.2))]'h11.2).2)), (x8.2.2.2.1, ((x8.2.2.2.2.1 + (1 : Int)), (x8.2.2.2.2.2.1, (x8.2.2.2.2.2.2.1, ())))))))))))
              ((k (Go.Abs.AVal.int Go.IntKind.i64 (16 : Int)) [])))
             ((k (Go.Abs.AVal.int Go.IntKind.i64 (16 : Int)) [])))
            (br (((Go.Abs.bitsA Go.BinOp.and Go.IntKind.i64 (Go.Abs.Label.bitsI (x8.2.2.2.2.2.2.1[(Int.toNat (x8.2.1[(Int.toNat x8.2.2.2.2.1)]'h10.2))]'h11.2).1) x8.2.2.1) != (Go.Abs.Label.bitsI (x8.2.2.2.2.2.2.1[(Int.toNat (x8.2.1[(Int.toNat x8.2.2.2.2.1)]'h10.2))]'h11.2).1)))
             ((k (Go.Abs.AVal.int Go.IntKind.i64 (16 : Int)) []))
             (br ((decide ((x8.2.2.2.2.2.2.1[(Int.toNat (x8.2.1[(Int.toNat x8.2.2.2.2.1)]'h10.2))]'h11.2).2 < (0 : Int))))
              ((Go.Abs.fitsK Go.IntKind.i64 (x8.2.2.2.2.1 + (1 : Int))) ∧
              (K8 (x8.1, (x8.2.1, (x8.2.2.1, (Bool.true, ((x8.2.2.2.2.1 + (1 : Int)), (x8.2.2.2.2.2.1, (x8.2.2.2.2.2.2.1, ())))))))))
              (((0 : Int) ≤ (x8.2.2.2.2.2.2.1[(Int.toNat (x8.2.1[(Int.toNat x8.2.2.2.2.1)]'h10.2))]'h11.2).2) ∧
              (Go.Abs.fitsK Go.IntKind.i64 (x8.2.2.2.2.1 + (1 : Int))) ∧
              (K8 (x8.1, (x8.2.1, ((Go.Abs.bitsA Go.BinOp.or Go.IntKind.i64 x8.2.2.1 (Go.Abs.shlA Go.IntKind.i64 (1 : Int) (x8.2.2.2.2.2.2.1[(Int.toNat (x8.2.1[(Int.toNat x8.2.2.2.2.1)]'h10.2))]'h11.2).2)), (x8.2.2.2.1, ((x8.2.2.2.2.1 + (1 : Int)), (x8.2.2.2.2.2.1, (x8.2.2.2.2.2.2.1, ()))))))))))))
           (br (((decide (x8.1 < (0 : Int))) == Bool.true))
            (br (((Bool.not x8.2.2.2.1) == Bool.false))
             (br (((decide (x8.1 ≥ (0 : Int))) == Bool.true))
              (((0 : Int) ≤ x8.1) ∧
              br (((Go.Abs.bitsA Go.BinOp.and Go.IntKind.i64 (Go.Abs.shrA Go.IntKind.i64 x8.2.2.1 x8.1) (1 : Int)) == (0 : Int)))
               ((k (Go.Abs.AVal.int Go.IntKind.i64 (14 : Int)) []))
               ((k (Go.Abs.AVal.int Go.IntKind.i64 (0 : Int)) [])))
              ((k (Go.Abs.AVal.int Go.IntKind.i64 (0 : Int)) [])))
             ((k (Go.Abs.AVal.int Go.IntKind.i64 (14 : Int)) [])))
            (br (((decide (x8.1 ≥ (0 : Int))) == Bool.true))
             (((0 : Int) ≤ x8.1) ∧
             br (((Go.Abs.bitsA Go.BinOp.and Go.IntKind.i64 (Go.Abs.shrA Go.IntKind.i64 x8.2.2.1 x8.1) (1 : Int)) == (0 : Int)))
              ((k (Go.Abs.AVal.int Go.IntKind.i64 (14 : Int)) []))
              ((k (Go.Abs.AVal.int Go.IntKind.i64 (0 : Int)) [])))
             ((k (Go.Abs.AVal.int Go.IntKind.i64 (0 : Int)) []))))) ((x6.2.1, (x6.2.2.1, ((Go.Abs.Label.bitsI x6.1), (Bool.false, ((0 : Int), (x6.2.2.2.2.1, (x6.2.2.2.2.2.1, ())))))))))) ((l, (x, (s, ((0 : Int), (w, (rs, ())))))))))
    ((k (Go.Abs.AVal.int Go.IntKind.i64 (3 : Int)) [])))
theorem eq40 (w : Int) (rs : List (List Int × Int)) (l : List Int) (x : Int) (s : List Int) (k : AVal → List Cont → Prop) : awpF (envOf [(45, mkC [v45]), (47, mkC [v47])]) Tryz.prog kt 40 false Tryz.f40 (v40.args (w, rs, l, x, s, ())) (v40.conts (w, rs, l, x, s, ())) k = vc40 w rs l x s k := by kernel_rfl
theorem tx40 : (Tryz.f40.body.map Code.textsOk).getD true = true := by kernel_rfl

def vc34 (w : Int) (rs : List (List Int × Int)) (l : List Int) (x : Int) (s : List Int) (k : AVal → List Cont → Prop) : Prop :=
  (Go.Abs.Label.v40.p (w, (rs, (l, (x, (s, ())))))) ∧
  br (((Go.Abs.Label.chkS w rs l x s) != (0 : Int)))
   ((k (Go.Abs.AVal.bool Bool.false) []))
   (Go.Abs.Loop (σ := ((List Int) × (Int × ((List Int) × (Int × (Int × ((List ((List Int) × Int)) × Unit))))))) (fun K6 x6 =>
     br ((decide (x6.2.2.2.1 < (((List.length x6.2.2.1) : Nat) : Int))))
      (Go.Abs.Loop (σ := ((List Int) × (Int × ((List Int) × (Int × (Int × (Int × ((List ((List Int) × Int)) × ((List Int) × Unit))))))))) (fun K8 x8 =>
        br ((decide (x8.2.2.2.2.1 < (((List.length x8.2.2.1) : Nat) : Int))))
         (br ((x8.2.2.2.2.1 != x8.2.2.2.1))
          (∃ h10 : (((0 : Int) ≤ x8.2.2.2.2.1) ∧ ((Int.toNat x8.2.2.2.2.1) < (List.length x8.2.2.1))),
          (((List.length x8.2.2.2.2.2.2.2.1) + (List.length ((x8.2.2.1[(Int.toNat x8.2.2.2.2.1)]'h10.2) :: ([] : List Int)))) ≤ Go.Abs.big) ∧
          (Go.Abs.fitsK Go.IntKind.i64 (x8.2.2.2.2.1 + (1 : Int))) ∧
          (K8 (x8.1, (x8.2.1, (x8.2.2.1, (x8.2.2.2.1, ((x8.2.2.2.2.1 + (1 : Int)), (x8.2.2.2.2.2.1, (x8.2.2.2.2.2.2.1, ((x8.2.2.2.2.2.2.2.1 ++ ((x8.2.2.1[(Int.toNat x8.2.2.2.2.1)]'h10.2) :: ([] : List Int))), ()))))))))))
          ((Go.Abs.fitsK Go.IntKind.i64 (x8.2.2.2.2.1 + (1 : Int))) ∧
          (K8 (x8.1, (x8.2.1, (x8.2.2.1, (x8.2.2.2.1, ((x8.2.2.2.2.1 + (1 : Int)), (x8.2.2.2.2.2.1, (x8.2.2.2.2.2.2.1, (x8.2.2.2.2.2.2.2.1, ())))))))))))
         ((Go.Abs.Label.v40.p (x8.2.2.2.2.2.1, (x8.2.2.2.2.2.2.1, (x8.1, (x8.2.1, (x8.2.2.2.2.2.2.2.1, ())))))) ∧
         br (((Go.Abs.Label.chkS x8.2.2.2.2.2.1 x8.2.2.2.2.2.2.1 x8.1 x8.2.1 x8.2.2.2.2.2.2.2.1) == (0 : Int)))
          ((k (Go.Abs.AVal.bool Bool.false) []))
          ((Go.Abs.fitsK Go.IntKind.i64 (x8.2.2.2.1 + (1 : Int))) ∧
          (K6 (x8.1, (x8.2.1, (x8.2.2.1, ((x8.2.2.2.1 + (1 : Int)), (x8.2.2.2.2.2.1, (x8.2.2.2.2.2.2.1, ())))))))))) ((x6.1, (x6.2.1, (x6.2.2.1, (x6.2.2.2.1, ((0 : Int), (x6.2.2.2.2.1, (x6.2.2.2.2.2.1, (([] : List Int), ()))))))))))
      ((k (Go.Abs.AVal.bool Bool.true) []))) ((l, (x, (s, ((0 : Int), (w, (rs, ()))))))))
theorem eq34 (w : Int) (rs : List (List Int × Int)) (l : List Int) (x : Int) (s : List Int) (k : AVal → List Cont → Prop) : awpF (envOf [(40, mkC [v40])]) Tryz.prog kt 34 false Tryz.f34 (v34.args (w, rs, l, x, s, ())) (v34.conts (w, rs, l, x, s, ())) k = vc34 w rs l x s k := by kernel_rfl
theorem tx34 : (Tryz.f34.body.map Code.textsOk).getD true = true := by kernel_rfl

end Go.Abs.Label
end

section
/- The label's functions keep their contracts: given steps. -/
open Go.Proofs
set_option maxRecDepth 100000
set_option linter.unusedVariables false
namespace Go.Abs.Label

theorem hasI_sub (c : Nat) (l : List Int) : hasI (c : Int) (bitsI l) = subB (bitsL l) c := by
  unfold hasI bitsI
  rw [Int.toNat_natCast, Int.toNat_natCast]
theorem hasI_one (c : Nat) (t : Int) : hasI (c : Int) (andI 0 t) = c.testBit t.toNat := by
  unfold hasI andI
  rw [Int.toNat_natCast, Int.toNat_natCast]
  exact has_one
theorem andI_nat (c : Nat) (t : Int) : andI (c : Int) t = ((c ||| 2 ^ t.toNat : Nat) : Int) := by
  unfold andI
  rw [Int.toNat_natCast]

theorem goS_cons {rs : List (List Int × Int)} {x t : Int} {r : List Int} {c : Nat} {R : List Int × Int} (hR : ruleAt rs t = R) {n : Prop} [Decidable n] (hn : r ≠ [] ↔ n) :
    goS rs x (t :: r) c = if (R.2 < 0 ∧ (0 ≤ x ∨ n)) ∨ subB (bitsL R.1) c = false then 16 else if R.2 < 0 then 0 else goS rs x r (c ||| 2 ^ R.2.toNat) := by
  subst hR
  simp only [goS, hn]

theorem k33 (hG : Good Tryz.prog (envOf [(42, mkC [v42]), (50, mkC [v50]), (73, mkC [v73]), (59, mkC [v59]), (57, mkC [v57])])) : v33.Kept Tryz.prog 33 := by
  rintro ⟨w, rs, l, x, s, ⟨⟩⟩ hpre k hk
  change Int at w
  change List (List Int × Int) at rs
  change List Int at l
  change Int at x
  change List Int at s
  refine aspec hmix hG Tryz.func33 tx33 (Eq.mpr (eq33 w rs l x s k) ?_)
  replace hk : k (rI (chkS w rs l x s)) [] := hk
  unfold vc33
  obtain ⟨hs, hl, hsl⟩ := hpre
  have hl : l.length ≤ 1000 := hl
  have hsl : s.length ≤ 1000 := hsl
  refine ⟨⟨hs, hl⟩, ?_⟩
  unfold chkS at hk
  have bad : ∀ e : Int, e ≠ 0 → labelErr w rs l = e → k (rI e) [] := fun e h0 he => by
    rw [he, if_pos h0] at hk
    exact hk
  refine br_intro (fun h => bad 6 (by omega) (by simpa [leIs] using h)) (fun h6 => br_intro (fun h => bad 2 (by omega) (by simpa [leIs] using h)) (fun h2 => br_intro (fun h => bad 3 (by omega) (by simpa [leIs] using h)) (fun h3 => ?_)))
  have e := labelErr_cases w rs l h6 h2 h3
  obtain ⟨hg, hin, hb⟩ := label_isB e
  obtain ⟨hw1, hw2, hrl, _⟩ := guild_spec hg
  rw [if_neg (by omega)] at hk
  refine ⟨fits64 (by omega) (by omega), by show (1 : Nat) ≤ big60; decide, ?_⟩
  rw [Bool.not_not, anyOut_one]
  refine br_intro (fun h => by rw [if_pos h] at hk; exact hk) (fun hx => ?_)
  rw [if_neg (by simp [hx])] at hk
  simp only [outOf, decide_eq_false_iff_not] at hx
  refine ⟨fits64 (by omega) (by omega), by show s.length ≤ big60; simp only [big60]; omega, ?_⟩
  have ea : anyOut 0 ((rs.length : Int) - 1) s = s.any (stepBad rs) := rfl
  rw [Bool.not_not, ea]
  refine br_intro (fun h => by rw [if_pos h] at hk; exact hk) (fun hst => ?_)
  rw [if_neg (by simp [hst])] at hk
  have hst : ∀ t ∈ s, 0 ≤ t ∧ t < (rs.length : Int) := fun t ht => by
    have := List.any_eq_false.1 hst t ht
    unfold stepBad outOf at this
    simp only [decide_eq_true_eq] at this
    omega
  have hbl := bitsL_lt hin
  have hok := gd_then hg
  refine Loop.intro (fun y => ∃ (i c : Nat), y = (x, s, w, rs, s, ((s.length : Nat) : Int), (i : Int), (c : Int), ()) ∧ i ≤ s.length ∧ c < 1024 ∧ goS rs x (s.drop i) c = goS rs x s (bitsL l)) (fun y => s.length - y.2.2.2.2.2.2.1.toNat) ?_ ⟨0, bitsL l, rfl, by omega, hbl, rfl⟩
  rintro y K ⟨i, c, rfl, hi, hc, he⟩ hK
  dsimp only
  have hcB : isB (c : Int) := ⟨by omega, by omega⟩
  rw [br_decide]
  refine ⟨fun g => ?_, fun g => ?_⟩
  · have hi2 : i < s.length := by omega
    obtain ⟨ht0, ht1⟩ := hst _ (List.getElem_mem hi2)
    have htn : s[i].toNat < rs.length := by omega
    have hif := gd_if hg (List.getElem_mem htn)
    have hth := hok _ (List.getElem_mem htn)
    have hne : s.drop (i + 1) ≠ [] ↔ i + 1 < s.length := by
      rw [← List.length_pos_iff, List.length_drop]; omega
    have hR : ruleAt rs s[i] = rs[s[i].toNat] := getD_at htn
    rw [List.drop_eq_getElem_cons hi2, goS_cons hR hne] at he
    simp only [Int.toNat_natCast]
    refine ⟨⟨by omega, hi2⟩, ⟨ht0, htn⟩, ?_⟩
    have k16 : ((rs[s[i].toNat].2 < 0 ∧ (0 ≤ x ∨ i + 1 < s.length)) ∨ subB (bitsL rs[s[i].toNat].1) c = false) → k (rI 16) [] := fun h => by
      rw [if_pos h] at he
      rw [← he] at hk
      exact hk
    have k0 : ¬ ((rs[s[i].toNat].2 < 0 ∧ (0 ≤ x ∨ i + 1 < s.length)) ∨ subB (bitsL rs[s[i].toNat].1) c = false) → rs[s[i].toNat].2 < 0 → k (rI 0) [] := fun h h2 => by
      rw [if_neg h, if_pos h2] at he
      rw [← he] at hk
      exact hk
    have kK : ¬ ((rs[s[i].toNat].2 < 0 ∧ (0 ≤ x ∨ i + 1 < s.length)) ∨ subB (bitsL rs[s[i].toNat].1) c = false) → ¬ rs[s[i].toNat].2 < 0 → K (x, s, w, rs, s, ((s.length : Nat) : Int), (i : Int) + 1, andI (c : Int) rs[s[i].toNat].2, ()) := fun h h2 => by
      rw [if_neg h, if_neg h2] at he
      refine hK _ ⟨i + 1, c ||| 2 ^ rs[s[i].toNat].2.toNat, by rw [andI_nat]; rfl, by omega, or_lt hc (by omega), he⟩ ?_
      dsimp only
      omega
    have sub : ∀ (P : Prop), (subB (bitsL rs[s[i].toNat].1) c = true → P) → (v73.p (rs[s[i].toNat].1, ())) ∧ (v59.p ((c : Int), ((bitsI rs[s[i].toNat].1), ()))) ∧ br (Bool.not (hasI (c : Int) (bitsI rs[s[i].toNat].1))) (k (rI 16) []) P := fun P hP => by
      refine ⟨⟨by show rs[s[i].toNat].1.length ≤ 1000; omega, hif.2⟩, ⟨hcB, isB_bits hif.2⟩, ?_⟩
      rw [hasI_sub, br_not]
      exact ⟨fun h => k16 (.inr h), hP⟩
    rw [br_true]
    refine ⟨fun g1 => ?_, fun g1 => ?_⟩
    · rw [br_false]
      refine ⟨fun g2 => ⟨fits64 (by omega) (by omega), ?_⟩, fun g2 => k16 (.inl ⟨g1, .inl (by omega)⟩)⟩
      rw [br_decide]
      refine ⟨fun g3 => ?_, fun g3 => ?_⟩
      · rw [br_decide]
        exact ⟨fun _ => k16 (.inl ⟨g1, .inr (by omega)⟩), fun h => absurd g3 h⟩
      · refine sub _ (fun h => ?_)
        rw [br_decide]
        have hn : ¬ ((rs[s[i].toNat].2 < 0 ∧ (0 ≤ x ∨ i + 1 < s.length)) ∨ subB (bitsL rs[s[i].toNat].1) c = false) := by
          rw [h]; simp; omega
        exact ⟨fun h2 => k0 hn h2, fun h2 => absurd g1 h2⟩
    · refine sub _ (fun h => ?_)
      rw [br_decide]
      have hn : ¬ ((rs[s[i].toNat].2 < 0 ∧ (0 ≤ x ∨ i + 1 < s.length)) ∨ subB (bitsL rs[s[i].toNat].1) c = false) := by
        rw [h]; simp; omega
      have g2 : 0 ≤ rs[s[i].toNat].2 := by omega
      exact ⟨fun h2 => absurd h2 g1, fun h2 => ⟨⟨hcB, g2, hth⟩, fits64 (by omega) (by omega), kK hn h2⟩⟩
  · have e0 : s.drop i = [] := List.drop_eq_nil_of_le (by omega)
    rw [e0] at he
    simp only [goS] at he
    rw [← he] at hk
    rw [br_false]
    refine ⟨fun g2 => ?_, fun g2 => by rw [if_pos (.inl g2)] at hk; exact hk⟩
    have g3 : 0 ≤ x := by omega
    have g4 : x ≤ 9 := by omega
    refine ⟨⟨zero_isB, g3, g4⟩, ⟨hcB, andI_isB zero_isB g3 g4⟩, ?_⟩
    rw [hasI_one, br_not]
    refine ⟨fun h => by rw [if_pos (.inr h)] at hk; exact hk, fun h => ?_⟩
    rw [if_neg (by rw [h]; simp; omega)] at hk
    exact hk
end Go.Abs.Label
end

section
/- The label's functions keep their contracts: given steps by the reference. -/
open Go.Proofs
set_option maxRecDepth 100000
set_option linter.unusedVariables false
namespace Go.Abs.Label

theorem and_ne_nat {a : List Int} {c : Nat} (hc : c < 1024) (ha : inL 0 9 a) : (bitsA .and .i64 (bitsI a) (c : Int) != bitsI a) = Bool.not (subB (bitsL a) c) := by
  have h := and_sub hc ha
  show Bool.not (bitsA .and .i64 (bitsI a) (c : Int) == bitsI a) = _
  rw [h]

theorem k40 (hG : Good Tryz.prog (envOf [(45, mkC [v45]), (47, mkC [v47])])) : v40.Kept Tryz.prog 40 := by
  rintro ⟨w, rs, l, x, s, ⟨⟩⟩ hpre k hk
  change Int at w
  change List (List Int × Int) at rs
  change List Int at l
  change Int at x
  change List Int at s
  refine aspec hmix hG Tryz.func40 tx40 (Eq.mpr (eq40 w rs l x s k) ?_)
  replace hk : k (rI (chkS w rs l x s)) [] := hk
  unfold vc40
  obtain ⟨hs, hl, hsl⟩ := hpre
  have hl : l.length ≤ 1000 := hl
  have hsl : s.length ≤ 1000 := hsl
  refine ⟨⟨hs, hl⟩, ?_⟩
  unfold chkS at hk
  rw [br_bne]
  refine ⟨fun h => ⟨⟨hs, hl⟩, ?_⟩, fun e => ?_⟩
  · rw [if_pos h] at hk; exact hk
  obtain ⟨hg, hin, hb⟩ := label_isB e
  obtain ⟨hw1, hw2, hrl, _⟩ := guild_spec hg
  rw [if_neg (by omega)] at hk
  have out : (x < -1 ∨ w - 1 < x) → k (rI 3) [] := fun h => by
    have : outOf (-1) (w - 1) x = true := by unfold outOf; simpa using h
    rw [if_pos this] at hk; exact hk
  rw [br_false]
  refine ⟨fun x1 => ?_, fun x1 => out (.inl x1)⟩
  rw [br_decide]
  refine ⟨fun x2 => out (.inr (by omega)), fun x2 => ?_⟩
  have hx : outOf (-1) (w - 1) x = false := by unfold outOf; rw [decide_eq_false_iff_not]; omega
  rw [if_neg (by simp [hx])] at hk
  have no : ∀ (i : Nat) (hi : i < s.length), (s[i] < 0 ∨ (rs.length : Int) ≤ s[i]) → k (rI 2) [] := fun i hi h => by
    have : s.any (stepBad rs) = true := any_at hi (by unfold stepBad outOf; rw [decide_eq_true_eq]; omega)
    rw [if_pos this] at hk; exact hk
  refine Loop.upto (fun i => (l, x, s, (i : Int), w, rs, ())) (fun i => ∀ y ∈ s.take i, stepBad rs y = false) s.length rfl (by simp) ?_ ?_
  · intro i K hi hp hK
    dsimp only
    rw [br_decide]
    refine ⟨fun _ => ?_, fun h => absurd hi (by omega)⟩
    try simp only [Int.toNat_natCast]
    refine ⟨⟨by omega, by omega⟩, ?_⟩
    rw [br_false]
    refine ⟨fun g1 => ⟨⟨by omega, by omega⟩, ?_⟩, fun g1 => no i hi (.inl g1)⟩
    rw [br_decide]
    refine ⟨fun g2 => no i hi (.inr (by omega)), fun g2 => ⟨fits64 (by omega) (by omega), hK (take_all_succ _ _ _ hi hp ?_)⟩⟩
    unfold stepBad outOf; rw [decide_eq_false_iff_not]; omega
  · intro K hp
    dsimp only
    rw [br_decide]
    refine ⟨fun h => absurd h (by omega), fun _ => ?_⟩
    rw [List.take_length] at hp
    have hst0 : s.any (stepBad rs) = false := any_no hp
    rw [if_neg (by simp [hst0])] at hk
    have hst : ∀ t ∈ s, 0 ≤ t ∧ t < (rs.length : Int) := fun t ht => by
      have := hp t ht
      unfold stepBad outOf at this
      simp only [decide_eq_false_iff_not] at this
      omega
    have hbl := bitsL_lt hin
    have hok := gd_then hg
    refine ⟨⟨hl, hin⟩, ?_⟩
    refine Loop.intro (fun y => ∃ (i c : Nat) (f : Bool), y = (x, s, (c : Int), f, (i : Int), w, rs, ()) ∧ i ≤ s.length ∧ c < 1024 ∧ ((f = false ∧ goS rs x (s.drop i) c = goS rs x s (bitsL l)) ∨ (f = true ∧ x < 0 ∧ i = s.length ∧ goS rs x s (bitsL l) = 0))) (fun y => s.length - y.2.2.2.2.1.toNat) ?_ ⟨0, bitsL l, false, rfl, by omega, hbl, .inl ⟨rfl, rfl⟩⟩
    rintro y K2 ⟨i, c, f, rfl, hi, hc, he⟩ hK2
    dsimp only
    rw [br_decide]
    refine ⟨fun g => ?_, fun g => ?_⟩
    · have hi2 : i < s.length := by omega
      rcases he with ⟨rfl, he⟩ | ⟨_, _, h, _⟩
      rotate_left
      · omega
      obtain ⟨ht0, ht1⟩ := hst _ (List.getElem_mem hi2)
      have htn : s[i].toNat < rs.length := by omega
      have hif := gd_if hg (List.getElem_mem htn)
      have hth := hok _ (List.getElem_mem htn)
      have hne : s.drop (i + 1) ≠ [] ↔ i + 1 < s.length := by
        rw [← List.length_pos_iff, List.length_drop]; omega
      have hR : ruleAt rs s[i] = rs[s[i].toNat] := getD_at htn
      rw [List.drop_eq_getElem_cons hi2, goS_cons hR hne] at he
      simp only [Int.toNat_natCast]
      refine ⟨⟨by omega, hi2⟩, ⟨ht0, htn⟩, ⟨by show rs[s[i].toNat].1.length ≤ 1000; omega, hif.2⟩, ?_⟩
      have k16 : ((rs[s[i].toNat].2 < 0 ∧ (0 ≤ x ∨ i + 1 < s.length)) ∨ subB (bitsL rs[s[i].toNat].1) c = false) → k (rI 16) [] := fun h => by
        rw [if_pos h] at he
        rw [← he] at hk
        exact hk
      have k0 : ¬ ((rs[s[i].toNat].2 < 0 ∧ (0 ≤ x ∨ i + 1 < s.length)) ∨ subB (bitsL rs[s[i].toNat].1) c = false) → rs[s[i].toNat].2 < 0 → K2 (x, s, (c : Int), true, (i : Int) + 1, w, rs, ()) := fun h h2 => by
        rw [if_neg h, if_pos h2] at he
        refine hK2 _ ⟨i + 1, c, true, rfl, by omega, hc, .inr ⟨rfl, by omega, by omega, he.symm⟩⟩ ?_
        dsimp only
        omega
      have kK : ¬ ((rs[s[i].toNat].2 < 0 ∧ (0 ≤ x ∨ i + 1 < s.length)) ∨ subB (bitsL rs[s[i].toNat].1) c = false) → ¬ rs[s[i].toNat].2 < 0 → K2 (x, s, bitsA .or .i64 (c : Int) (shlA .i64 1 rs[s[i].toNat].2), false, (i : Int) + 1, w, rs, ()) := fun h h2 => by
        rw [if_neg h, if_neg h2] at he
        rw [shl_or ⟨by omega, by omega⟩ (by omega) hth, andI_nat]
        refine hK2 _ ⟨i + 1, c ||| 2 ^ rs[s[i].toNat].2.toNat, false, rfl, by omega, or_lt hc (by omega), .inl ⟨rfl, he⟩⟩ ?_
        dsimp only
        omega
      rw [and_ne_nat hc hif.2]
      have rest : (rs[s[i].toNat].2 < 0 → ¬ (0 ≤ x ∨ i + 1 < s.length)) → br (Bool.not (subB (bitsL rs[s[i].toNat].1) c)) (k (rI 16) []) (br (decide (rs[s[i].toNat].2 < 0)) (fitsK .i64 ((i : Int) + 1) ∧ K2 (x, s, (c : Int), true, (i : Int) + 1, w, rs, ())) (0 ≤ rs[s[i].toNat].2 ∧ fitsK .i64 ((i : Int) + 1) ∧ K2 (x, s, bitsA .or .i64 (c : Int) (shlA .i64 1 rs[s[i].toNat].2), false, (i : Int) + 1, w, rs, ()))) := fun hq => by
        rw [br_not]
        refine ⟨fun h => k16 (.inr h), fun h => ?_⟩
        have hn : ¬ ((rs[s[i].toNat].2 < 0 ∧ (0 ≤ x ∨ i + 1 < s.length)) ∨ subB (bitsL rs[s[i].toNat].1) c = false) := by
          rw [h]
          rintro (⟨h1, h2⟩ | h1)
          · exact hq h1 h2
          · cases h1
        rw [br_decide]
        exact ⟨fun h2 => ⟨fits64 (by omega) (by omega), k0 hn h2⟩, fun h2 => ⟨by omega, fits64 (by omega) (by omega), kK hn h2⟩⟩
      rw [br_true]
      refine ⟨fun g1 => ?_, fun g1 => rest (fun h => absurd h g1)⟩
      rw [br_false]
      refine ⟨fun g2 => ⟨fits64 (by omega) (by omega), ?_⟩, fun g2 => k16 (.inl ⟨g1, .inl (by omega)⟩)⟩
      rw [br_false]
      exact ⟨fun g3 => rest (fun _ => by omega), fun g3 => k16 (.inl ⟨g1, .inr (by omega)⟩)⟩
    · have e0 : s.drop i = [] := List.drop_eq_nil_of_le (by omega)
      rw [e0] at he
      simp only [goS] at he
      have last : 0 ≤ x → (0 ≤ x ∧ br (bitsA .and .i64 (shrA .i64 (c : Int) x) 1 == 0) (k (rI 14) []) (k (rI 0) [])) := fun h0 => by
        rcases he with ⟨_, he⟩ | ⟨_, h, _⟩
        · obtain ⟨X, rfl⟩ := Int.eq_ofNat_of_zero_le h0
          rw [Int.toNat_natCast] at he
          refine ⟨h0, ?_⟩
          rw [bit_none c X (by omega), br_not]
          refine ⟨fun h => ?_, fun h => ?_⟩
          · rw [if_pos (.inr h)] at he; rw [← he] at hk; exact hk
          · rw [if_neg (by rw [h]; simp <;> omega)] at he; rw [← he] at hk; exact hk
        · omega
      rw [br_true]
      refine ⟨fun g1 => ?_, fun g1 => ?_⟩
      · rw [br_bf]
        refine ⟨fun h => ?_, fun h => ?_⟩
        · rw [br_true]
          refine ⟨fun g2 => last g2, fun _ => ?_⟩
          rcases he with ⟨rfl, he⟩ | ⟨_, _, _, he⟩
          · cases h
          · rw [he] at hk; exact hk
        · rcases he with ⟨_, he⟩ | ⟨rfl, _⟩
          · rw [if_pos (.inl g1)] at he; rw [← he] at hk; exact hk
          · cases h
      · rw [br_true]
        exact ⟨fun g2 => last g2, fun g2 => by omega⟩

theorem k34 (hG : Good Tryz.prog (envOf [(40, mkC [v40])])) : v34.Kept Tryz.prog 34 := by
  rintro ⟨w, rs, l, x, s, ⟨⟩⟩ hpre k hk
  change Int at w
  change List (List Int × Int) at rs
  change List Int at l
  change Int at x
  change List Int at s
  refine aspec hmix hG Tryz.func34 tx34 (Eq.mpr (eq34 w rs l x s k) ?_)
  replace hk : k (.bool (needS w rs l x s)) [] := hk
  unfold vc34
  obtain ⟨hs, hl, hsl⟩ := hpre
  have hl : l.length ≤ 1000 := hl
  have hsl : s.length ≤ 1000 := hsl
  unfold needS at hk
  refine ⟨⟨hs, hl, hsl⟩, ?_⟩
  rw [br_bne]
  refine ⟨fun h => ?_, fun e => ?_⟩
  · have : decide (chkS w rs l x s = 0) = false := by simpa using h
    rw [this, Bool.false_and] at hk; exact hk
  rw [e, show decide ((0 : Int) = 0) = true from rfl, Bool.true_and] at hk
  refine Loop.upto (fun i => (l, x, s, (i : Int), w, rs, ())) (fun i => ∀ j, j < i → chkS w rs l x (s.eraseIdx j) ≠ 0) s.length rfl (fun j h => by omega) ?_ ?_
  · intro i K hi hp hK
    dsimp only
    rw [br_decide]
    refine ⟨fun _ => ?_, fun h => absurd hi (by omega)⟩
    try simp only [Int.toNat_natCast]
    refine Loop.upto (fun j => (l, x, s, (i : Int), (j : Int), w, rs, (s.take j).eraseIdx i, ())) (fun j => True) s.length rfl trivial ?_ ?_
    · intro j K_j hj hp_j hK_j
      dsimp only
      rw [br_decide]
      refine ⟨fun _ => ?_, fun h => absurd hj (by omega)⟩
      try simp only [Int.toNat_natCast]
      have hK_j := hK_j trivial
      have hll : ((s.take j).eraseIdx i).length ≤ j := Nat.le_trans (List.length_eraseIdx_le _ _) (by simp; omega)
      rw [List.take_succ_eq_append_getElem hj] at hK_j
      have htl : (s.take j).length = j := by rw [List.length_take]; omega
      rw [br_bne]
      refine ⟨fun h => ⟨⟨by omega, by omega⟩, by simp only [List.length_cons, List.length_nil, big]; omega, fits64 (by omega) (by omega), ?_⟩, fun h => ⟨fits64 (by omega) (by omega), ?_⟩⟩
      · have e2 : (s.take j ++ [s[j]]).eraseIdx i = (s.take j).eraseIdx i ++ [s[j]] := by
          rcases Nat.lt_or_ge i j with h1 | h1
          · rw [List.eraseIdx_append_of_lt_length (by omega)]
          · rw [List.eraseIdx_of_length_le (by rw [List.length_append, List.length_singleton]; omega), List.eraseIdx_of_length_le (by omega)]
        rw [e2] at hK_j
        exact hK_j
      · have hij : i = j := by omega
        have e2 : (s.take j ++ [s[j]]).eraseIdx i = (s.take j).eraseIdx i := by
          rw [List.eraseIdx_append_of_length_le (by omega), List.eraseIdx_of_length_le (show (s.take j).length ≤ i by omega), show i - (s.take j).length = 0 by omega]
          simp
        rw [e2] at hK_j
        exact hK_j
    · intro K_j hp_j
      dsimp only
      rw [br_decide]
      refine ⟨fun h => absurd h (by omega), fun _ => ?_⟩
      rw [List.take_length]
      refine ⟨⟨hs, hl, by show (s.eraseIdx i).length ≤ 1000; exact Nat.le_trans (List.length_eraseIdx_le _ _) hsl⟩, ?_⟩
      rw [br_beq]
      refine ⟨fun h => ?_, fun h => ⟨fits64 (by omega) (by omega), hK (fun j hj => ?_)⟩⟩
      · have : (List.range s.length).all (fun i => !decide (chkS w rs l x (s.eraseIdx i) = 0)) = false := by
          rw [← Bool.not_eq_true, List.all_eq_true]
          intro h2
          have := h2 i (by simpa using hi)
          simp [h] at this
        rw [this] at hk; exact hk
      · rcases Nat.lt_or_ge j i with h1 | h1
        · exact hp j h1
        · obtain rfl : j = i := by omega
          exact h
  · intro K hp
    dsimp only
    rw [br_decide]
    refine ⟨fun h => absurd h (by omega), fun _ => ?_⟩
    have : (List.range s.length).all (fun i => !decide (chkS w rs l x (s.eraseIdx i) = 0)) = true := by
      rw [List.all_eq_true]
      intro i hi
      have := hp i (by simpa using hi)
      simp [this]
    rw [this] at hk; exact hk
end Go.Abs.Label
end

section
/- What the label's functions compute: steps that lead to a word. -/
namespace Go.Abs.Label
def grantR (c : Nat) (r : List Int × Int) : Bool := decide (0 ≤ r.2) && (subB (bitsL r.1) c && !c.testBit r.2.toNat)
/-- The steps in order, as far as they go. -/
def runS (rs : List (List Int × Int)) : Nat → Nat × List Int → Nat × List Int
  | 0, s => s
  | n + 1, s => if indexOf (grantR s.1) rs < 0 then s else runS rs n (s.1 ||| 2 ^ (ruleAt rs (indexOf (grantR s.1) rs)).2.toNat, s.2 ++ [indexOf (grantR s.1) rs])
def runOf (rs : List (List Int × Int)) (b : Nat) : Nat × List Int := runS rs 11 (b, [])
def backS (rs : List (List Int × Int)) (b : Nat) (s : Nat × List Int) (i : Int) : Nat × List Int :=
  if (ruleAt rs i).2 < 0 ∨ s.1.testBit (ruleAt rs i).2.toNat = true then (andNot (s.1 ||| bitsL (ruleAt rs i).1) b, s.2 ++ [i]) else s
def backOf (rs : List (List Int × Int)) (b need : Nat) (out : List Int) : List Int := (out.reverse.foldl (backS rs b) (need, [])).2.reverse
def lessAt (w : Int) (rs : List (List Int × Int)) (b word : Int) (s : List Int) : Int := indexOf (fun i : Nat => decide (chkS w rs (listI b) word (s.eraseIdx i) = 0)) (List.range s.length)
def lessS (w : Int) (rs : List (List Int × Int)) (b word : Int) : Nat → List Int → List Int
  | 0, s => s
  | n + 1, s => if lessAt w rs b word s < 0 then s else lessS w rs b word n (s.eraseIdx (lessAt w rs b word s).toNat)
def lessL (w : Int) (rs : List (List Int × Int)) (b word : Int) (s : List Int) : List Int := lessS w rs b word (s.length + 1) s
def hasSteps (rs : List (List Int × Int)) (b word : Int) : Bool :=
  if 0 ≤ word then (runOf rs b.toNat).1.testBit word.toNat else !decide (indexOf (ban3 ((runOf rs b.toNat).1 : Int)) rs < 0)
def rawS (rs : List (List Int × Int)) (b word : Int) : List Int :=
  if 0 ≤ word then backOf rs b.toNat (2 ^ word.toNat) (runOf rs b.toNat).2
  else backOf rs b.toNat (bitsL (ruleAt rs (indexOf (ban3 ((runOf rs b.toNat).1 : Int)) rs)).1) ((runOf rs b.toNat).2 ++ [indexOf (ban3 ((runOf rs b.toNat).1 : Int)) rs])
def stepL (w : Int) (rs : List (List Int × Int)) (b word : Int) : List Int := if hasSteps rs b word then lessL w rs b word (rawS rs b word) else []
def stepErr (w : Int) (rs : List (List Int × Int)) (l : List Int) (word : Int) : Int :=
  if labelErr w rs l ≠ 0 then labelErr w rs l else if outOf (-1) (w - 1) word then 3 else if hasSteps rs (bitsI l) word then 0 else 5
def stepsL (w : Int) (rs : List (List Int × Int)) (l : List Int) (word : Int) : List Int := if stepErr w rs l word = 0 then stepL w rs (bitsI l) word else []
end Go.Abs.Label
end

section
/- The contracts of the label's functions: steps that lead to a word. -/
namespace Go.Abs.Label
def v91 : Var := ⟨.cs sR (.cs sSS .nl), [], fun x => x.1.length ≤ 1000 ∧ inL 0 9 x.1 ∧ isB x.2.2.1, fun x => one (rBo (ban3 x.2.2.1 (x.1, x.2.1)))⟩
abbrev sC91 : VS := .fn 91 .nl (.cs sSS .nl)
def v83e : Var := ⟨.cs sRL (.cs sC91 .nl), [], fun x => x.1.length ≤ 1000 ∧ goodIfs x.1 ∧ isB x.2.1, fun x => one (rI (indexOf (ban3 x.2.1) x.1))⟩
def v92 : Var := ⟨.cs sL .nl, [], fun _ => True, fun x => .leaf (.fn (.func 103) [] [.iptr [.imm (.int .i64) x.1 false]]) []⟩
def v93 : Var := ⟨.cs (.reg 0 false) .nl, [.sl (.int .i64)], fun x => x.1.length ≤ 1000, fun x => .leaf (.tup []) [.sl (.int .i64) x.1.reverse]⟩
def v105 : Var := ⟨.cs sL .nl, [], fun x => x.1.length ≤ 1000, fun x => own x.1⟩
def v104 : Var := ⟨.cs (.reg 0 false) (.cs sI (.cs sI .nl)), [.sl (.int .i64)], fun x => x.2.2.1.length ≤ 1000 ∧ 0 ≤ x.1 ∧ x.1 < x.2.2.1.length ∧ x.2.1 = x.1 + 1, fun x => .leaf (.sub 0 0 (x.2.2.1.length - 1) false) [.sl (.int .i64) ((show List Int from x.2.2.1).eraseIdx x.1.toNat ++ [(0 : Int)] : List Int)]⟩
def v94 : Var := ⟨.cs sD (.cs sS (.cs sI (.cs sL .nl))), [], fun x => Gd x.1 x.2.1 ∧ isB x.2.2.1 ∧ x.2.2.2.2.1.length ≤ 1000, fun x => one (.imm (.int .i64) (lessL x.1 x.2.1 x.2.2.1 x.2.2.2.1 x.2.2.2.2.1) false)⟩
def v75 : Var := ⟨.cs sD (.cs sS (.cs sI .nl)), [], fun x => Gd x.1 x.2.1 ∧ isB x.2.2.1 ∧ -1 ≤ x.2.2.2.1 ∧ x.2.2.2.1 < x.1, fun x => one (.tup [.imm (.int .i64) (stepL x.1 x.2.1 x.2.2.1 x.2.2.2.1) false, rBo (hasSteps x.2.1 x.2.2.1 x.2.2.2.1)])⟩
def v32 : Var := ⟨.cs sG (.cs sL (.cs sI .nl)), [], fun x => smallG x.2.1 ∧ x.2.2.1.length ≤ 1000, fun x => ownE (stepsL x.1 x.2.1 x.2.2.1 x.2.2.2.1) (stepErr x.1 x.2.1 x.2.2.1 x.2.2.2.1)⟩
end Go.Abs.Label
end

section
/- Conditions and their equations, printed by a program. -/
open Go.Proofs
set_option maxRecDepth 100000
set_option linter.unusedVariables false
namespace Go.Abs.Label
def vc91 (l : List Int) (t s : Int) (k : AVal → List Cont → Prop) : Prop :=
  br (((decide (t < (0 : Int))) == Bool.true))
   ((Go.Abs.Label.v73.p (l, ())) ∧
   (Go.Abs.Label.v59.p (s, ((Go.Abs.Label.bitsI l), ()))) ∧
   (k (Go.Abs.AVal.bool (Go.Abs.Label.hasI s (Go.Abs.Label.bitsI l))) []))
   ((k (Go.Abs.AVal.bool Bool.false) []))
theorem eq91 (l : List Int) (t s : Int) (k : AVal → List Cont → Prop) : awpF (envOf [(73, mkC [v73]), (59, mkC [v59])]) Tryz.prog kt 91 false Tryz.f91 (v91.args (l, t, s, ())) (v91.conts (l, t, s, ())) k = vc91 l t s k := by kernel_rfl
theorem tx91 : (Tryz.f91.body.map Code.textsOk).getD true = true := by kernel_rfl

def vc83e (rs : List (List Int × Int)) (s : Int) (k : AVal → List Cont → Prop) : Prop :=
  Go.Abs.Loop (σ := ((List ((List Int) × Int)) × (Int × (Int × (Int × Unit))))) (fun K3 x3 =>
    br ((decide (x3.2.2.2.1 < x3.2.2.1)))
     (∃ h5 : (((0 : Int) ≤ x3.2.2.2.1) ∧ ((Int.toNat x3.2.2.2.1) < (List.length x3.1))),
     (Go.Abs.Label.v91.p ((x3.1[(Int.toNat x3.2.2.2.1)]'h5.2).1, ((x3.1[(Int.toNat x3.2.2.2.1)]'h5.2).2, (x3.2.1, ())))) ∧
     br ((Go.Abs.Label.ban3 x3.2.1 ((x3.1[(Int.toNat x3.2.2.2.1)]'h5.2).1, (x3.1[(Int.toNat x3.2.2.2.1)]'h5.2).2)))
      ((k (Go.Abs.AVal.int Go.IntKind.i64 x3.2.2.2.1) []))
      ((Go.Abs.fitsK Go.IntKind.i64 (x3.2.2.2.1 + (1 : Int))) ∧
      (K3 (x3.1, (x3.2.1, (x3.2.2.1, ((x3.2.2.2.1 + (1 : Int)), ())))))))
     ((k (Go.Abs.AVal.int Go.IntKind.i64 (-(1 : Int) : Int)) []))) ((rs, (s, ((((List.length rs) : Nat) : Int), ((0 : Int), ())))))
theorem eq83e (rs : List (List Int × Int)) (s : Int) (k : AVal → List Cont → Prop) : awpF (envOf [(91, mkC [v91])]) Tryz.prog kt 83 false Tryz.f83 (v83e.args (rs, s, ())) (v83e.conts (rs, s, ())) k = vc83e rs s k := by kernel_rfl

def vc92 (l : List Int) (k : AVal → List Cont → Prop) : Prop :=
  (k (Go.Abs.AVal.fn (Go.Fn.func (103 : Nat)) [] ((Go.Abs.AVal.iptr ((Go.Abs.AVal.imm (Go.Abs.Ty.int Go.IntKind.i64) l Bool.false) :: [])) :: [])) [])
theorem eq92 (l : List Int) (k : AVal → List Cont → Prop) : awpF (envOf []) Tryz.prog kt 92 false Tryz.f92 (v92.args (l, ())) (v92.conts (l, ())) k = vc92 l k := by kernel_rfl
theorem tx92 : (Tryz.f92.body.map Code.textsOk).getD true = true := by kernel_rfl

def vc105 (l : List Int) (k : AVal → List Cont → Prop) : Prop :=
  ∀ b2 : Bool,
  ∀ b3 : ((b2 = Bool.true) → (l = ([] : List Int))),
  br (b2)
   ((k (Go.Abs.AVal.reg 0 Bool.false) ((Go.Abs.Cont.sl (Go.Abs.Ty.int Go.IntKind.i64) ([] : List Int)) :: [])))
   ((((List.length ([] : List Int)) + (List.length l)) ≤ Go.Abs.big) ∧
   (k (Go.Abs.AVal.reg 0 Bool.false) ((Go.Abs.Cont.sl (Go.Abs.Ty.int Go.IntKind.i64) (([] : List Int) ++ l)) :: [])))
theorem eq105 (l : List Int) (k : AVal → List Cont → Prop) : awpF (envOf []) Tryz.prog kt 105 false Tryz.f105 (v105.args (l, ())) (v105.conts (l, ())) k = vc105 l k := by kernel_rfl
theorem tx105 : (Tryz.f105.body.map Code.textsOk).getD true = true := by kernel_rfl

def vc94 (w : Int) (rs : List (List Int × Int)) (b : Int) (x : Int) (s : List Int) (k : AVal → List Cont → Prop) : Prop :=
  Go.Abs.Loop (σ := (Int × ((List ((List Int) × Int)) × (Int × ((List Int) × (Int × (Int × Unit))))))) (fun K6 x6 =>
    br ((decide (x6.2.2.2.2.1 < (((List.length x6.2.2.2.1) : Nat) : Int))))
     ((Go.Abs.Label.v105.p (x6.2.2.2.1, ())) ∧
     (Go.Abs.fitsK Go.IntKind.i64 (x6.2.2.2.2.1 + (1 : Int))) ∧
     (Go.Abs.Label.v104.p (x6.2.2.2.2.1, ((x6.2.2.2.2.1 + (1 : Int)), (x6.2.2.2.1, ())))) ∧
     (Go.Abs.Label.v44.p (x6.2.2.2.2.2.1, ())) ∧
     (Go.Abs.Label.v33.p (x6.1, (x6.2.1, ((Go.Abs.Label.listI x6.2.2.2.2.2.1), (x6.2.2.1, ((List.take ((List.length x6.2.2.2.1) - (1 : Nat)) (List.drop (0 : Nat) ((List.eraseIdx x6.2.2.2.1 (Int.toNat x6.2.2.2.2.1)) ++ ((0 : Int) :: ([] : List Int))))), ())))))) ∧
     br (((Go.Abs.Label.chkS x6.1 x6.2.1 (Go.Abs.Label.listI x6.2.2.2.2.2.1) x6.2.2.1 (List.take ((List.length x6.2.2.2.1) - (1 : Nat)) (List.drop (0 : Nat) ((List.eraseIdx x6.2.2.2.1 (Int.toNat x6.2.2.2.2.1)) ++ ((0 : Int) :: ([] : List Int)))))) == (0 : Int)))
      ((K6 (x6.1, (x6.2.1, (x6.2.2.1, ((List.take ((List.length x6.2.2.2.1) - (1 : Nat)) (List.drop (0 : Nat) ((List.eraseIdx x6.2.2.2.1 (Int.toNat x6.2.2.2.2.1)) ++ ((0 : Int) :: ([] : List Int))))), ((0 : Int), (x6.2.2.2.2.2.1, ()))))))))
      ((Go.Abs.fitsK Go.IntKind.i64 (x6.2.2.2.2.1 + (1 : Int))) ∧
      (K6 (x6.1, (x6.2.1, (x6.2.2.1, (x6.2.2.2.1, ((x6.2.2.2.2.1 + (1 : Int)), (x6.2.2.2.2.2.1, ())))))))))
     ((k (Go.Abs.AVal.imm (Go.Abs.Ty.int Go.IntKind.i64) x6.2.2.2.1 Bool.false) []))) ((w, (rs, (x, (s, ((0 : Int), (b, ())))))))
theorem eq94 (w : Int) (rs : List (List Int × Int)) (b : Int) (x : Int) (s : List Int) (k : AVal → List Cont → Prop) : awpF (envOf [(105, mkC [v105]), (104, mkC [v104]), (44, mkC [v44]), (33, mkC [v33])]) Tryz.prog kt 94 true Tryz.f94 (v94.args (w, rs, b, x, s, ())) (v94.conts (w, rs, b, x, s, ())) k = vc94 w rs b x s k := by kernel_rfl
theorem tx94 : (Tryz.f94.body.map Code.textsOk).getD true = true := by kernel_rfl

def vc32 (w : Int) (rs : List (List Int × Int)) (l : List Int) (x : Int) (k : AVal → List Cont → Prop) : Prop :=
  (Go.Abs.Label.v42.p (w, (rs, (l, ())))) ∧
  br ((Go.Abs.Label.leIs w rs l (6 : Int)))
   ((k (Go.Abs.AVal.tup ((Go.Abs.AVal.reg 0 Bool.false) :: ((Go.Abs.AVal.int Go.IntKind.i64 (6 : Int)) :: []))) ((Go.Abs.Cont.sl (Go.Abs.Ty.int Go.IntKind.i64) ([] : List Int)) :: [])))
   (br ((Go.Abs.Label.leIs w rs l (2 : Int)))
    ((k (Go.Abs.AVal.tup ((Go.Abs.AVal.reg 0 Bool.false) :: ((Go.Abs.AVal.int Go.IntKind.i64 (2 : Int)) :: []))) ((Go.Abs.Cont.sl (Go.Abs.Ty.int Go.IntKind.i64) ([] : List Int)) :: [])))
    (br ((Go.Abs.Label.leIs w rs l (3 : Int)))
     ((k (Go.Abs.AVal.tup ((Go.Abs.AVal.reg 0 Bool.false) :: ((Go.Abs.AVal.int Go.IntKind.i64 (3 : Int)) :: []))) ((Go.Abs.Cont.sl (Go.Abs.Ty.int Go.IntKind.i64) ([] : List Int)) :: [])))
     ((Go.Abs.fitsK Go.IntKind.i64 (w - (1 : Int))) ∧
     (Go.Abs.Label.v50.p ((-(1 : Int) : Int), ((w - (1 : Int)), ((x :: ([] : List Int)), ())))) ∧
     br ((Bool.not (Bool.not (Go.Abs.Label.anyOut (-(1 : Int) : Int) (w - (1 : Int)) (x :: ([] : List Int))))))
      ((k (Go.Abs.AVal.tup ((Go.Abs.AVal.reg 0 Bool.false) :: ((Go.Abs.AVal.int Go.IntKind.i64 (3 : Int)) :: []))) ((Go.Abs.Cont.sl (Go.Abs.Ty.int Go.IntKind.i64) ([] : List Int)) :: [])))
      ((Go.Abs.Label.v75.p (w, (rs, ((Go.Abs.Label.bitsI l), (x, ()))))) ∧
      br ((Bool.not (Go.Abs.Label.hasSteps rs (Go.Abs.Label.bitsI l) x)))
       ((k (Go.Abs.AVal.tup ((Go.Abs.AVal.reg 0 Bool.false) :: ((Go.Abs.AVal.int Go.IntKind.i64 (5 : Int)) :: []))) ((Go.Abs.Cont.sl (Go.Abs.Ty.int Go.IntKind.i64) ([] : List Int)) :: [])))
       ((((0 : Int) ≤ (((List.length (Go.Abs.Label.stepL w rs (Go.Abs.Label.bitsI l) x)) : Nat) : Int)) ∧ (((((List.length (Go.Abs.Label.stepL w rs (Go.Abs.Label.bitsI l) x)) : Nat) : Int) = (((List.length (Go.Abs.Label.stepL w rs (Go.Abs.Label.bitsI l) x)) : Nat) : Int)) ∧ ((((List.length (Go.Abs.Label.stepL w rs (Go.Abs.Label.bitsI l) x)) : Nat) : Int) ≤ ((Go.Abs.big : Nat) : Int)))) ∧
       (k (Go.Abs.AVal.tup ((Go.Abs.AVal.reg 0 Bool.false) :: ((Go.Abs.AVal.int Go.IntKind.i64 (0 : Int)) :: []))) ((Go.Abs.Cont.sl (Go.Abs.Ty.int Go.IntKind.i64) ((List.take (List.length (List.replicate (Int.toNat (((List.length (Go.Abs.Label.stepL w rs (Go.Abs.Label.bitsI l) x)) : Nat) : Int)) (Int.ofNat 0))) (Go.Abs.Label.stepL w rs (Go.Abs.Label.bitsI l) x)) ++ (List.drop (List.length (Go.Abs.Label.stepL w rs (Go.Abs.Label.bitsI l) x)) (List.replicate (Int.toNat (((List.length (Go.Abs.Label.stepL w rs (Go.Abs.Label.bitsI l) x)) : Nat) : Int)) (Int.ofNat 0))))) :: [])))))))
theorem eq32 (w : Int) (rs : List (List Int × Int)) (l : List Int) (x : Int) (k : AVal → List Cont → Prop) : awpF (envOf [(42, mkC [v42]), (50, mkC [v50]), (75, mkC [v75])]) Tryz.prog kt 32 false Tryz.f32 (v32.args (w, rs, l, x, ())) (v32.conts (w, rs, l, x, ())) k = vc32 w rs l x k := by kernel_rfl
theorem tx32 : (Tryz.f32.body.map Code.textsOk).getD true = true := by kernel_rfl

end Go.Abs.Label
end

section
/- The label's functions keep their contracts: parts of steps. -/
open Go.Proofs
set_option maxRecDepth 100000
set_option linter.unusedVariables false
namespace Go.Abs.Label

theorem k91 (hG : Good Tryz.prog (envOf [(73, mkC [v73]), (59, mkC [v59])])) : v91.Kept Tryz.prog 91 := by
  rintro ⟨l, t, s, ⟨⟩⟩ hpre k hk
  change List Int at l
  change Int at t s
  refine aspec hmix hG Tryz.func91 tx91 (Eq.mpr (eq91 l t s k) ?_)
  replace hk : k (.bool (ban3 s (l, t))) [] := hk
  unfold vc91
  obtain ⟨hl, hin, hs⟩ := hpre
  have hl : l.length ≤ 1000 := hl
  have hin : inL 0 9 l := hin
  have hs : isB s := hs
  have eh : hasR s (l, t) = hasI s (bitsI l) := by
    unfold hasR hasI bitsI
    rw [Int.toNat_natCast]
  unfold ban3 at hk
  rw [eh] at hk
  rw [br_true]
  refine ⟨fun h => ⟨⟨hl, hin⟩, ⟨hs, isB_bits hin⟩, ?_⟩, fun h => ?_⟩
  · have e : decide ((l, t).2 < 0) = true := by simpa using h
    rw [e, Bool.true_and] at hk
    exact hk
  · have e : decide ((l, t).2 < 0) = false := by simpa using h
    rw [e, Bool.false_and] at hk
    exact hk

theorem k83e (hG : Good Tryz.prog (envOf [(91, mkC [v91])])) : v83e.Kept Tryz.prog 83 := by
  rintro ⟨rs, s, ⟨⟩⟩ hpre k hk
  change List (List Int × Int) at rs
  change Int at s
  refine aspec hmix hG Tryz.func83 tx83 (Eq.mpr (eq83e rs s k) ?_)
  replace hk : k (rI (indexOf (ban3 s) rs)) [] := hk
  unfold vc83e
  obtain ⟨h1, h2, h3⟩ := hpre
  have h1 : rs.length ≤ 1000 := h1
  have h2 : goodIfs rs := h2
  refine Loop.upto (fun i => (rs, s, ((rs.length : Nat) : Int), (i : Int), ())) (fun i => ∀ y ∈ rs.take i, (ban3 s) y = false) rs.length rfl (by simp) ?_ ?_
  · intro j K_j hj hp_j hK_j
    dsimp only
    rw [br_decide]
    refine ⟨fun _ => ?_, fun h => absurd hj (by omega)⟩
    try simp only [Int.toNat_natCast]
    have hif := h2 _ (List.getElem_mem hj)
    refine ⟨⟨by omega, by omega⟩, ⟨hif.1, hif.2, h3⟩, ?_⟩
    refine br_intro (fun h => ?_) (fun h => ⟨fits64 (by omega) (by omega), hK_j (take_all_succ _ _ _ hj hp_j h)⟩)
    have : indexOf (ban3 s) rs = (j : Int) := indexOf_some _ rs j hj hp_j h
    rwa [this] at hk
  · intro K hp
    dsimp only
    rw [br_decide]
    refine ⟨fun h => absurd h (by omega), fun _ => ?_⟩
    rw [List.take_length] at hp
    have : indexOf (ban3 s) rs = -1 := indexOf_none _ rs hp
    rwa [this] at hk

theorem k92 (hG : Good Tryz.prog (envOf [])) : v92.Kept Tryz.prog 92 := by
  rintro ⟨l, ⟨⟩⟩ hpre k hk
  change List Int at l
  refine aspec hmix hG Tryz.func92 tx92 (Eq.mpr (eq92 l k) ?_)
  replace hk : k (.fn (.func 103) [] [.iptr [.imm (.int .i64) l false]]) [] := hk
  unfold vc92
  exact hk

theorem k105 (hG : Good Tryz.prog (envOf [])) : v105.Kept Tryz.prog 105 := by
  rintro ⟨l, ⟨⟩⟩ hpre k hk
  change List Int at l
  refine aspec hmix hG Tryz.func105 tx105 (Eq.mpr (eq105 l k) ?_)
  replace hk : k (.reg 0 false) [.sl (.int .i64) l] := hk
  unfold vc105
  have h1 : l.length ≤ 1000 := hpre
  intro b hb
  refine br_intro (fun h => ?_) (fun h => ⟨by simp [big]; omega, hk⟩)
  have e := hb h
  subst e
  exact hk
end Go.Abs.Label
end

section
/- The library's Delete, Reverse and Grow at this program: the numbers of their parts (printed by the kit's tool). -/
namespace Go.Proofs
open Go.Shelf
def Tryz.layDel_ren : Go.Shelf.Ren := ⟨fun | 45 => 104 | n => n, fun | 22 => 25 | 23 => 3 | 3 => 3 | 4 => 4 | 0 => 0 | n => n, fun | n => n⟩
theorem Tryz.layDel : Go.Proofs.SlLaysE.n45 Tryz.prog Tryz.layDel_ren := {
  mixed := by kernel_rfl
  f45 := ⟨Tryz.f104.name, by decide, Tryz.func104.trans (congrArg some (by kernel_rfl))⟩
  t0 := Tryz.underlying0
  a0 := Tryz.isAgg0
  z0 := Tryz.sizeOf0
  v0 := Tryz.zeroValue0
  t3 := Tryz.underlying3
  a3 := Tryz.isAgg3
  z3 := Tryz.sizeOf3
  v3 := Tryz.zeroValue3
  t4 := Tryz.underlying4
  a4 := Tryz.isAgg4
  z4 := Tryz.sizeOf4
  v4 := Tryz.zeroValue4
  t22 := Tryz.underlying25
  a22 := Tryz.isAgg25
  z22 := Tryz.sizeOf25
  v22 := Tryz.zeroValue25
  a23 := Tryz.isAgg3
  z23 := Tryz.sizeOf3 }
def Tryz.layRev_ren : Go.Shelf.Ren := ⟨fun | 35 => 93 | n => n, fun | 22 => 25 | 23 => 3 | 3 => 3 | 4 => 4 | 0 => 0 | n => n, fun | n => n⟩
theorem Tryz.layRev : Go.Proofs.SlLaysE.n35 Tryz.prog Tryz.layRev_ren := {
  mixed := by kernel_rfl
  f35 := ⟨Tryz.f93.name, by decide, Tryz.func93.trans (congrArg some (by kernel_rfl))⟩
  t0 := Tryz.underlying0
  a0 := Tryz.isAgg0
  z0 := Tryz.sizeOf0
  v0 := Tryz.zeroValue0
  t3 := Tryz.underlying3
  a3 := Tryz.isAgg3
  z3 := Tryz.sizeOf3
  v3 := Tryz.zeroValue3
  t4 := Tryz.underlying4
  a4 := Tryz.isAgg4
  z4 := Tryz.sizeOf4
  v4 := Tryz.zeroValue4
  t22 := Tryz.underlying25
  a22 := Tryz.isAgg25
  z22 := Tryz.sizeOf25
  v22 := Tryz.zeroValue25
  a23 := Tryz.isAgg3
  z23 := Tryz.sizeOf3 }
def Tryz.layGrow_ren : Go.Shelf.Ren := ⟨fun | 4 => 90 | n => n, fun | 22 => 22 | 25 => 58 | 3 => 3 | 4 => 4 | 9 => 9 | 20 => 20 | 0 => 0 | n => n, fun | n => n⟩
theorem Tryz.layGrow : Go.Proofs.Lays8.n4 Tryz.prog Tryz.layGrow_ren := {
  mixed := by kernel_rfl
  f4 := ⟨Tryz.f90.name, by decide, Tryz.func90.trans (congrArg some (by kernel_rfl))⟩
  t0 := Tryz.underlying0
  a0 := Tryz.isAgg0
  z0 := Tryz.sizeOf0
  v0 := Tryz.zeroValue0
  t3 := Tryz.underlying3
  a3 := Tryz.isAgg3
  z3 := Tryz.sizeOf3
  v3 := Tryz.zeroValue3
  t4 := Tryz.underlying4
  a4 := Tryz.isAgg4
  z4 := Tryz.sizeOf4
  v4 := Tryz.zeroValue4
  t9 := Tryz.underlying9
  a9 := Tryz.isAgg9
  z9 := Tryz.sizeOf9
  v9 := Tryz.zeroValue9
  t20 := Tryz.underlying20
  a20 := Tryz.isAgg20
  z20 := Tryz.sizeOf20
  v20 := Tryz.zeroValue20
  t22 := Tryz.underlying22
  a22 := Tryz.isAgg22
  z22 := Tryz.sizeOf22
  v22 := Tryz.zeroValue22 }
end Go.Proofs
end

section
/- The library's Delete and Reverse, at slices of numbers: contracts over regions handed to them. -/
namespace Go.Abs
open Go.Proofs Go.Shelf Go.Sort

theorem row_world (w : World) (blk off q : Nat) (d : Array Int) : putRow (Value.int .i64) (Sort.ahead w q) blk off d = sortWorld (Value.int .i64) w blk off q d #[] := by
  unfold sortWorld grow putRow mapBlock
  simp

theorem ints_one : OneCell (Value.int .i64) := fun _ => rfl

/-- What a slice of numbers of one's own is in memory. -/
theorem ints_holds {F : Nat → Prop} {K : Know} {H : Nat → Option Hd} {w : World} {l : List Int} {hd : Hd} (hm : MRel F K H w (newM (fun _ => none) 0 [.sl (.int .i64) l])) (hH : H 0 = some hd) (hpos : 0 < l.length) :
    ∃ b cs e, hd.base = some b ∧ hd.len = l.length ∧ hd.len ≤ hd.cap ∧ hd.cap ≤ 9223372036854775807 ∧ hd.sz = 1 ∧ w.heap[b]? = some (.cells cs e (0, 0)) ∧ hd.cap ≤ cs.size ∧ ¬ F b ∧ K.cells b = none ∧ K.inv b = none ∧ Holds (Value.int .i64) w b 0 l.toArray := by
  obtain ⟨c1, c2, ⟨c3, c3'⟩, c4⟩ := hm.cont 0 (.sl (.int .i64) l) .own hd rfl (by simp) hH
  have c2 : hd.len = @List.length Int l := c2
  rcases c4 with ⟨c4, c5⟩ | ⟨b, cs, e, fz, g1, g2, g3, g4⟩
  · omega
  obtain ⟨o1, o2, o3, o4⟩ := hm.own 0 (.sl (.int .i64) l) hd b rfl hH g1
  obtain ⟨cs', e', o5⟩ := o4 rfl
  rw [g2] at o5
  cases o5
  have hs1 : Ty.size (.int .i64) = 1 := rfl
  rw [hs1, Nat.mul_one] at g3
  refine ⟨b, cs, e, g1, c2, c3, c3', c1, g2, g3, o1, o2, o3, ?_⟩
  intro j hj
  have hj' : j < l.length := by simpa using hj
  refine ⟨?_, ?_⟩
  · unfold World.cell?
    rw [g2]
    simp only [Option.isSome_none, Bool.false_eq_true, if_false, Nat.zero_add]
    have := g4 j hj'
    rw [hs1, Nat.mul_one, Nat.zero_add] at this
    have h2 : slab cs j 1 = [Value.int .i64 (@GetElem.getElem (List Int) Nat Int _ _ l j hj')] := this
    rw [slab_one h2, getElem!_pos l.toArray j hj]
    simp
  · unfold World.frozen?
    rw [g2]
    simp

/-- What is left after the slice was written over. -/
theorem ints_after {F : Nat → Prop} {K : Know} {H : Nat → Option Hd} {w : World} {l l' : List Int} {hd : Hd} (hok : WOk F K w) (hm : MRel F K H w (newM (fun _ => none) 0 [.sl (.int .i64) l])) (hH : H 0 = some hd) (hpos : 0 < l.length)
    {b q : Nat} (hb : hd.base = some b) (hl' : l'.length = l.length) :
    MRel F K H (sortWorld (Value.int .i64) w b 0 q l'.toArray #[]) (newM (fun _ => none) 0 [.sl (.int .i64) l']) ∧ WOk F K (sortWorld (Value.int .i64) w b 0 q l'.toArray #[]) ∧ Kept F w (sortWorld (Value.int .i64) w b 0 q l'.toArray #[]) := by
  obtain ⟨b', cs, e, g1, c2, c3, c3', c1, g2, g3, o1, o2, o3, hh⟩ := ints_holds hm hH hpos
  rw [hb] at g1
  cases g1
  have hcont : ContRel K H (sortWorld (Value.int .i64) w b 0 q l'.toArray #[]) hd (.sl (.int .i64) l') := by
    refine ⟨c1, (show hd.len = @List.length Int l' by omega), ⟨c3, c3'⟩, .inr ⟨b, _, _, (0, 0), hb, sort_heap_at (Value.int .i64) w b 0 q l'.toArray #[] g2, ?_, ?_⟩⟩
    · show hd.cap * 1 ≤ _
      rw [Nat.mul_one]; simpa [putCells] using g3
    · intro i hi
      have hi : i < @List.length Int l' := hi
      have hi2 : i < l'.toArray.size := by simpa using hi
      have : (putCells (Value.int .i64) 0 l'.toArray cs)[i]? = some (Value.int .i64 (@GetElem.getElem (List Int) Nat Int _ _ l' i hi)) := by
        simp only [putCells, Array.getElem?_mapIdx, Nat.zero_add, Nat.zero_le, true_and, Nat.sub_zero]
        rw [Array.getElem?_eq_getElem (by omega), Option.map_some, if_pos hi2, getElem!_pos _ i hi2]
        simp
      show DenRep K (.int .i64) _ (slab _ (0 + i * 1) 1)
      rw [Nat.mul_one, Nat.zero_add, slab_of this]
      rfl
  refine ⟨?_, sort_ok hok (Value.int .i64) b 0 q l'.toArray #[] o2 o3, sort_kept hok (Value.int .i64) b 0 q l'.toArray #[] o1⟩
  have only : ∀ {r : Nat} {c : Cont} {f : Flag}, newM (fun _ => none) 0 [Cont.sl (.int .i64) l'] r = some (c, f) → r = 0 ∧ c = .sl (.int .i64) l' ∧ f = .own := by
    intro r c f h
    have h' : upd (fun _ => none) 0 (Cont.sl (.int .i64) l', Flag.own) r = some (c, f) := h
    by_cases hr : r = 0
    · subst hr; rw [upd_same] at h'; cases h'; exact ⟨rfl, rfl, rfl⟩
    · rw [upd_ne _ _ _ _ hr] at h'; cases h'
  refine ⟨?_, ?_, ?_, ?_⟩
  · intro r c f hd' h2 _ h3
    obtain ⟨rfl, rfl, rfl⟩ := only h2
    rw [hH] at h3; cases h3
    exact hcont
  · intro r c hd' b' h2 h3 h4
    obtain ⟨rfl, rfl, _⟩ := only h2
    rw [hH] at h3; cases h3
    rw [hb] at h4; cases h4
    exact ⟨o1, o2, o3, fun _ => ⟨_, _, sort_heap_at (Value.int .i64) w b 0 q l'.toArray #[] g2⟩⟩
  · intro r c hd' b' h2
    obtain ⟨_, _, h3⟩ := only h2
    cases h3
  · intro r r' c c' hd1 hd2 b' h2 h3
    rw [(only h2).1, (only h3).1]; intros; rfl

theorem reverse_spec {P : Program} {ρ : Ren} (L : SlLaysE.n35 P ρ) {l : List Int} (hlen : l.length < 4611686018427387904) {full : Bool} {k : AVal → List Cont → Prop} (hk : k (.tup []) [.sl (.int .i64) l.reverse]) :
    ASpec P (ρ.f 35) [.reg 0 full] [.sl (.int .i64) l] k := by
  intro F K H w vs hok hargs hm hfr
  obtain ⟨v0, vs', rfl, hr0, hargs'⟩ := hargs.inv
  obtain rfl : vs' = [] := RepL.nil_iff.1 hargs'
  clear hargs hargs'
  simp only [Rep] at hr0
  obtain ⟨hd, hH, rfl, hfull⟩ := hr0
  obtain ⟨c1, c2, c3, c4⟩ := hm.cont 0 (.sl (.int .i64) l) .own hd rfl (by simp) hH
  have c2 : hd.len = @List.length Int l := c2
  rcases Nat.eq_zero_or_pos l.length with h0 | hpos
  · have e0 : hd.len = 0 := by omega
    have el : l = [] := List.eq_nil_of_length_eq_zero h0
    subst el
    rw [e0]
    refine (AnyE.slices_Reverse_empty L _ hd.cap w).mono ?_
    rintro e w' ⟨rfl, rfl⟩
    refine ⟨_, .tup [], [.sl (.int .i64) []], K, H, rfl, hk, .refl K, ?_, hm, hfr, hok, .refl _ _, .refl _ _, Nat.le_refl _, fun _ _ => rfl⟩
    simp only [Rep]
    exact ⟨#[], rfl, .nil⟩
  obtain ⟨b, cs, e, g1, -, -, -, -, -, -, -, -, -, hh⟩ := ints_holds hm hH hpos
  rw [g1, c2]
  refine (AnyE.slices_Reverse L (Value.int .i64) ints_one b 0 hd.cap l w hh (by omega)).mono ?_
  rintro e2 w' ⟨rfl, q, rfl⟩
  rw [row_world]
  obtain ⟨a1, a2, a3⟩ := ints_after (q := q) (l' := l.reverse) hok hm hH hpos g1 (by simp)
  refine ⟨_, .tup [], [.sl (.int .i64) l.reverse], K, H, rfl, hk, .refl K, ?_, a1, hfr, a2, a3, .refl _ _, Nat.le_refl _, fun _ _ => rfl⟩
  simp only [Rep]
  exact ⟨#[], rfl, .nil⟩

theorem delete_spec {P : Program} {ρ : Ren} (L : SlLaysE.n45 P ρ) (v23 : ∀ w, (zeroValue (ρ.t 23)).run P w = .ok (Value.int .i64 0) w) {i0 : TypeInfo} (hi0 : P.info? (ρ.t 23) = some i0) (hz1 : i0.size = 1)
    {l : List Int} {i : Nat} (hi : i < l.length) {full : Bool} {k : AVal → List Cont → Prop} (hk : k (.sub 0 0 (l.length - 1) false) [.sl (.int .i64) (l.eraseIdx i ++ [0])]) :
    ASpec P (ρ.f 45) [.reg 0 full, .int .i64 (i : Int), .int .i64 ((i + 1 : Nat) : Int)] [.sl (.int .i64) l] k := by
  intro F K H w vs hok hargs hm hfr
  obtain ⟨v0, vs', rfl, hr0, hargs'⟩ := hargs.inv
  obtain ⟨v1, vs'', rfl, hr1, hargs''⟩ := hargs'.inv
  obtain ⟨v2, vs3, rfl, hr2, hargs3⟩ := hargs''.inv
  obtain rfl : vs3 = [] := RepL.nil_iff.1 hargs3
  clear hargs hargs' hargs'' hargs3
  simp only [Rep] at hr0 hr1 hr2
  subst hr1; subst hr2
  obtain ⟨hd, hH, rfl, hfull⟩ := hr0
  have hpos : 0 < l.length := by omega
  obtain ⟨b, cs, e, g1, c2, c3, hcap, c1, g2, g3, o1, o2, o3, hh⟩ := ints_holds hm hH hpos
  have hl' : (l.eraseIdx i ++ [0]).length = l.length := by simp [List.length_eraseIdx, hi]; omega
  rw [g1, c2]
  refine (AnyE.slices_Delete L (Value.int .i64) ints_one 0 v23 i0 hi0 hz1 b 0 hd.cap i (i + 1) l.toArray w hh (by simp; omega) hcap (by omega) (by simp; omega)).mono ?_
  rintro e2 w' ⟨rfl, q, rfl⟩
  have e3 : (l.toArray.toList.take i ++ l.toArray.toList.drop (i + 1) ++ List.replicate (i + 1 - i) (0 : Int)) = l.eraseIdx i ++ [0] := by
    rw [show i + 1 - i = 1 by omega, List.eraseIdx_eq_take_drop_succ]; simp
  rw [e3, row_world]
  obtain ⟨a1, a2, a3⟩ := ints_after (q := q) (l' := l.eraseIdx i ++ [0]) hok hm hH hpos g1 hl'
  refine ⟨_, .sub 0 0 (l.length - 1) false, [.sl (.int .i64) (l.eraseIdx i ++ [0])], K, H, rfl, hk, .refl K, ?_, a1, hfr, a2, a3, .refl _ _, Nat.le_refl _, fun _ _ => rfl⟩
  simp only [Rep]
  refine ⟨hd, hd.cap, some ⟨b, 0, none⟩, hH, ?_, by omega, by omega, by omega, by simp, .inr ⟨b, g1, by simp⟩⟩
  simp only [List.size_toArray, show l.length - (i + 1 - i) = l.length - 1 by omega]
end Go.Abs
end

section
/- The label's functions keep their contracts: steps without those that can be left out. -/
open Go.Proofs
set_option maxRecDepth 100000
set_option linter.unusedVariables false
namespace Go.Abs.Label

theorem k93 (hG : Good Tryz.prog (envOf [])) : v93.Kept Tryz.prog 93 := by
  rintro ⟨l, ⟨⟩⟩ h1 k hk
  have h1 : @List.length Int l ≤ 1000 := h1
  have hk : k (.tup []) [.sl (.int .i64) (@List.reverse Int l)] := hk
  exact reverse_spec Tryz.layRev (l := l) (by omega) (full := false) hk

theorem k104 (hG : Good Tryz.prog (envOf [])) : v104.Kept Tryz.prog 104 := by
  rintro ⟨i, j, l, ⟨⟩⟩ ⟨h1, h2, h3, h4⟩ k hk
  have h1 : @List.length Int l ≤ 1000 := h1
  have h2 : (0 : Int) ≤ i := h2
  have h3 : i < ((@List.length Int l : Nat) : Int) := h3
  have h4 : j = i + 1 := h4
  have hk : k (.sub 0 0 (@List.length Int l - 1) false) [.sl (.int .i64) (@List.eraseIdx Int l i.toNat ++ [(0 : Int)])] := hk
  have ei : i = ((i.toNat : Nat) : Int) := by omega
  have ej : j = ((i.toNat + 1 : Nat) : Int) := by omega
  obtain ⟨i0, hi0, hz1⟩ : ∃ i0, Tryz.prog.info? (Tryz.layDel_ren.t 23) = some i0 ∧ i0.size = 1 := ⟨Tryz.t3, by kernel_rfl, by kernel_rfl⟩
  have := delete_spec Tryz.layDel (fun w => Tryz.zeroValue3 w) hi0 hz1 (l := l) (i := i.toNat) (by omega) (full := false) hk
  rw [← ei, ← ej] at this
  exact this

theorem fold_max {n : Nat} : ∀ (rs : List (List Int × Int)) (a : Nat), a ≤ n → (∀ r ∈ rs, r.1.length ≤ n) → rs.foldl (fun n r => max n r.1.length) a ≤ n
  | [], a, h, _ => h
  | r :: rs, a, h, h2 => fold_max rs _ (Nat.max_le.2 ⟨h, h2 r (List.mem_cons_self ..)⟩) (fun x hx => h2 x (List.mem_cons_of_mem _ hx))
theorem gd_small {w : Int} {rs : List (List Int × Int)} (h : Gd w rs) : smallG rs := by
  have h1 := (guild_spec h).2.2.1
  have h2 : maxIf rs ≤ 4 := fold_max rs 0 (by omega) (fun r hr => (gd_if h hr).1)
  show greatG rs = false
  unfold greatG
  exact decide_eq_false (by omega)

theorem take_erase (l : List Int) {i : Nat} (hi : i < l.length) : List.take (l.length - 1) (List.drop 0 (l.eraseIdx i ++ [(0 : Int)])) = l.eraseIdx i := by
  have : (l.eraseIdx i).length = l.length - 1 := by rw [List.length_eraseIdx, if_pos hi]
  rw [List.drop_zero, ← this]
  simp

theorem less_none {w : Int} {rs : List (List Int × Int)} {b x : Int} {s : List Int} (h : ∀ j < s.length, chkS w rs (listI b) x (s.eraseIdx j) ≠ 0) : lessL w rs b x s = s := by
  have e : lessAt w rs b x s = -1 := by
    unfold lessAt
    refine indexOf_none _ _ (fun j hj => ?_)
    exact decide_eq_false (h j (List.mem_range.1 hj))
  unfold lessL lessS
  rw [e]
  rfl
theorem less_some {w : Int} {rs : List (List Int × Int)} {b x : Int} {s : List Int} {i : Nat} (hi : i < s.length) (h : ∀ j < i, chkS w rs (listI b) x (s.eraseIdx j) ≠ 0) (h0 : chkS w rs (listI b) x (s.eraseIdx i) = 0) :
    lessL w rs b x s = lessL w rs b x (s.eraseIdx i) := by
  have e : lessAt w rs b x s = (i : Int) := by
    unfold lessAt
    refine indexOf_some _ _ i (by simpa using hi) (fun j hj => ?_) ?_
    · rw [List.take_range] at hj
      have := List.mem_range.1 hj
      exact decide_eq_false (h j (by omega))
    · rw [List.getElem_range]; exact decide_eq_true h0
  have hl : (s.eraseIdx i).length + 1 = s.length := by rw [List.length_eraseIdx, if_pos hi]; omega
  conv => lhs; unfold lessL lessS
  rw [e, if_neg (by omega), Int.toNat_natCast]
  unfold lessL
  rw [hl]

theorem k94 (hG : Good Tryz.prog (envOf [(105, mkC [v105]), (104, mkC [v104]), (44, mkC [v44]), (33, mkC [v33])])) : v94.Kept Tryz.prog 94 := by
  rintro ⟨w, rs, b, x, s, ⟨⟩⟩ hpre k hk
  change Int at w
  change List (List Int × Int) at rs
  change Int at b
  change Int at x
  change List Int at s
  refine aspec hmix hG Tryz.func94 tx94 (Eq.mpr (eq94 w rs b x s k) ?_)
  replace hk : k (.imm (.int .i64) (lessL w rs b x s) false) [] := hk
  unfold vc94
  obtain ⟨hg, hb, h3⟩ := hpre
  have hg : Gd w rs := hg
  have hb : isB b := hb
  have h3 : s.length ≤ 1000 := h3
  refine Loop.intro (fun y => ∃ (t : List Int) (i : Nat), y = (w, rs, x, t, (i : Int), b, ()) ∧ t.length ≤ s.length ∧ i ≤ t.length ∧ (∀ j < i, chkS w rs (listI b) x (t.eraseIdx j) ≠ 0) ∧ lessL w rs b x t = lessL w rs b x s)
    (fun y => (@List.length Int y.2.2.2.1) * 1002 + (1001 - y.2.2.2.2.1.toNat)) ?_ ⟨s, 0, rfl, Nat.le_refl _, Nat.zero_le _, fun j hj => absurd hj (by omega), rfl⟩
  rintro _ K ⟨t, i, rfl, h4, h5, h6, h7⟩ hK
  dsimp only
  rw [br_decide]
  refine ⟨fun hlt => ?_, fun hlt => ?_⟩
  · have hi : i < t.length := by omega
    refine ⟨(show t.length ≤ 1000 by omega), fits64 (by omega) (by omega), ⟨(show t.length ≤ 1000 by omega), (show (0 : Int) ≤ (i : Int) by omega), (show (i : Int) < ((t.length : Nat) : Int) by omega), rfl⟩, hb, ?_⟩
    rw [Int.toNat_natCast, take_erase t hi]
    have hl : (t.eraseIdx i).length + 1 = t.length := by rw [List.length_eraseIdx, if_pos hi]; omega
    have hll : (listI b).length ≤ 10 := listI_len b
    refine ⟨⟨gd_small hg, (show (listI b).length ≤ 1000 by omega), (show (List.take (t.length - 1) (List.drop 0 (t.eraseIdx i ++ [(0 : Int)]))).length ≤ 1000 by rw [take_erase t hi]; omega)⟩, ?_⟩
    refine br_intro (fun h => ?_) (fun h => ⟨fits64 (by omega) (by omega), ?_⟩)
    · have h0 : chkS w rs (listI b) x (t.eraseIdx i) = 0 := eq_of_beq h
      refine hK _ ⟨t.eraseIdx i, 0, rfl, by omega, Nat.zero_le _, fun j hj => absurd hj (by omega), ?_⟩ ?_
      · rw [← less_some hi h6 h0]; exact h7
      · show (t.eraseIdx i).length * 1002 + (1001 - (0 : Int).toNat) < t.length * 1002 + (1001 - ((i : Int)).toNat)
        rw [Int.toNat_natCast]; simp; omega
    · refine hK _ ⟨t, i + 1, rfl, h4, hi, fun j hj => ?_, h7⟩ ?_
      · rcases Nat.lt_or_ge j i with g | g
        · exact h6 j g
        · have : j = i := by omega
          subst this
          intro h0
          rw [h0] at h
          exact absurd h (by decide)
      · show t.length * 1002 + (1001 - ((i : Int) + 1).toNat) < t.length * 1002 + (1001 - ((i : Int)).toNat)
        omega
  · have e := less_none (w := w) (rs := rs) (b := b) (x := x) (s := t) (fun j hj => h6 j (by omega))
    rw [e] at h7
    rw [h7]
    exact hk
end Go.Abs.Label
end

section
/- Conditions and their equations, printed by a program. -/
open Go.Proofs
set_option maxRecDepth 100000
set_option linter.unusedVariables false
namespace Go.Abs.Label
def vc75 (w : Int) (rs : List (List Int × Int)) (b : Int) (x : Int) (k : AVal → List Cont → Prop) : Prop :=
  Go.Abs.Loop (σ := (Int × (Int × ((List ((List Int) × Int)) × (Int × (Int × ((List Int) × Unit))))))) (fun K5 x5 =>
    (Go.Abs.Label.v78.p (x5.2.1, (x5.2.2.1, (x5.2.2.2.2.1, ())))) ∧
    (Go.Abs.Label.v79.p (x5.2.1, (x5.2.2.1, (x5.2.2.2.2.1, ())))) ∧
    Go.Abs.Loop (σ := (Int × ((List ((List Int) × Int)) × (Int × ((List Int) × (Int × (Int × (Int × ((List ((List Int) × Int)) × (Int × (Int × ((List ((List Int) × Int)) × (Int × (Int × ((List Int) × Unit))))))))))))))) (fun K7 x7 =>
      br ((decide (x7.2.2.2.2.1 < (12 : Int))))
       (∃ h9 : (((0 : Int) ≤ x7.2.2.2.2.1) ∧ ((Int.toNat x7.2.2.2.2.1) < (List.length x7.2.2.2.1))),
       ((Int.toNat x7.2.2.2.2.1) < (12 : Nat)) ∧
       ((List.length x7.2.2.2.1) = (12 : Nat)) ∧
       br (((decide (x7.2.2.2.2.1 < (((List.length x7.2.1) : Nat) : Int))) == Bool.true))
        (br ((((x7.2.2.2.1[(Int.toNat x7.2.2.2.2.1)]'h9.2) == (0 : Int)) == Bool.true))
         (∃ h10 : (((0 : Int) ≤ x7.2.2.2.2.1) ∧ ((Int.toNat x7.2.2.2.2.1) < (List.length x7.2.1))),
         br (((decide ((x7.2.1[(Int.toNat x7.2.2.2.2.1)]'h10.2).2 ≥ (0 : Int))) == Bool.true))
          (∃ h11 : (((0 : Int) ≤ x7.2.2.2.2.1) ∧ ((Int.toNat x7.2.2.2.2.1) < (List.length x7.2.1))),
          (Go.Abs.Label.v57.p ((0 : Int), ((x7.2.1[(Int.toNat x7.2.2.2.2.1)]'h11.2).2, ()))) ∧
          (Go.Abs.Label.v59.p (x7.2.2.1, ((Go.Abs.Label.andI (0 : Int) (x7.2.1[(Int.toNat x7.2.2.2.2.1)]'h11.2).2), ()))) ∧
          br (((Bool.not (Go.Abs.Label.hasI x7.2.2.1 (Go.Abs.Label.andI (0 : Int) (x7.2.1[(Int.toNat x7.2.2.2.2.1)]'h11.2).2))) == Bool.true))
           (∃ h12 : (((0 : Int) ≤ x7.2.2.2.2.1) ∧ ((Int.toNat x7.2.2.2.2.1) < (List.length x7.2.2.2.2.2.2.2.2.2.2.1))),
           (Go.Abs.Label.v57.p (x7.2.2.2.2.2.2.2.2.2.2.2.2.1, ((x7.2.2.2.2.2.2.2.2.2.2.1[(Int.toNat x7.2.2.2.2.1)]'h12.2).2, ()))) ∧
           (((0 : Int) ≤ (((List.length x7.2.2.2.2.2.2.2.2.2.2.2.2.2.1) : Nat) : Int)) ∧ (((((List.length x7.2.2.2.2.2.2.2.2.2.2.2.2.2.1) : Nat) : Int) ≤ (((List.length x7.2.2.2.2.2.2.2.2.2.2.2.2.2.1) : Nat) : Int)) ∧ ((((List.length x7.2.2.2.2.2.2.2.2.2.2.2.2.2.1) : Nat) : Int) = (((List.length x7.2.2.2.2.2.2.2.2.2.2.2.2.2.1) : Nat) : Int)))) ∧
           (((Int.toNat (((List.length x7.2.2.2.2.2.2.2.2.2.2.2.2.2.1) : Nat) : Int)) + (List.length (x7.2.2.2.2.1 :: ([] : List Int)))) ≤ Go.Abs.big) ∧
           ((0 : Nat) < (List.length (x7.2.2.2.2.1 :: ([] : List Int)))) ∧
           (K5 (x7.2.2.2.2.2.1, (x7.2.2.2.2.2.2.2.2.2.1, (x7.2.2.2.2.2.2.2.2.2.2.1, (x7.2.2.2.2.2.2.2.2.2.2.2.1, ((Go.Abs.Label.andI x7.2.2.2.2.2.2.2.2.2.2.2.2.1 (x7.2.2.2.2.2.2.2.2.2.2.1[(Int.toNat x7.2.2.2.2.1)]'h12.2).2), (((List.take (Int.toNat (((List.length x7.2.2.2.2.2.2.2.2.2.2.2.2.2.1) : Nat) : Int)) (List.drop (0 : Nat) x7.2.2.2.2.2.2.2.2.2.2.2.2.2.1)) ++ (x7.2.2.2.2.1 :: ([] : List Int))), ()))))))))
           ((Go.Abs.fitsK Go.IntKind.i64 (x7.2.2.2.2.1 + (1 : Int))) ∧
           (K7 (x7.1, (x7.2.1, (x7.2.2.1, (x7.2.2.2.1, ((x7.2.2.2.2.1 + (1 : Int)), (x7.2.2.2.2.2.1, (x7.2.2.2.2.2.2.1, (x7.2.2.2.2.2.2.2.1, (x7.2.2.2.2.2.2.2.2.1, (x7.2.2.2.2.2.2.2.2.2.1, (x7.2.2.2.2.2.2.2.2.2.2.1, (x7.2.2.2.2.2.2.2.2.2.2.2.1, (x7.2.2.2.2.2.2.2.2.2.2.2.2.1, (x7.2.2.2.2.2.2.2.2.2.2.2.2.2.1, ())))))))))))))))))
          ((Go.Abs.fitsK Go.IntKind.i64 (x7.2.2.2.2.1 + (1 : Int))) ∧
          (K7 (x7.1, (x7.2.1, (x7.2.2.1, (x7.2.2.2.1, ((x7.2.2.2.2.1 + (1 : Int)), (x7.2.2.2.2.2.1, (x7.2.2.2.2.2.2.1, (x7.2.2.2.2.2.2.2.1, (x7.2.2.2.2.2.2.2.2.1, (x7.2.2.2.2.2.2.2.2.2.1, (x7.2.2.2.2.2.2.2.2.2.2.1, (x7.2.2.2.2.2.2.2.2.2.2.2.1, (x7.2.2.2.2.2.2.2.2.2.2.2.2.1, (x7.2.2.2.2.2.2.2.2.2.2.2.2.2.1, ())))))))))))))))))
         ((Go.Abs.fitsK Go.IntKind.i64 (x7.2.2.2.2.1 + (1 : Int))) ∧
         (K7 (x7.1, (x7.2.1, (x7.2.2.1, (x7.2.2.2.1, ((x7.2.2.2.2.1 + (1 : Int)), (x7.2.2.2.2.2.1, (x7.2.2.2.2.2.2.1, (x7.2.2.2.2.2.2.2.1, (x7.2.2.2.2.2.2.2.2.1, (x7.2.2.2.2.2.2.2.2.2.1, (x7.2.2.2.2.2.2.2.2.2.2.1, (x7.2.2.2.2.2.2.2.2.2.2.2.1, (x7.2.2.2.2.2.2.2.2.2.2.2.2.1, (x7.2.2.2.2.2.2.2.2.2.2.2.2.2.1, ())))))))))))))))))
        ((Go.Abs.fitsK Go.IntKind.i64 (x7.2.2.2.2.1 + (1 : Int))) ∧
        (K7 (x7.1, (x7.2.1, (x7.2.2.1, (x7.2.2.2.1, ((x7.2.2.2.2.1 + (1 : Int)), (x7.2.2.2.2.2.1, (x7.2.2.2.2.2.2.1, (x7.2.2.2.2.2.2.2.1, (x7.2.2.2.2.2.2.2.2.1, (x7.2.2.2.2.2.2.2.2.2.1, (x7.2.2.2.2.2.2.2.2.2.2.1, (x7.2.2.2.2.2.2.2.2.2.2.2.1, (x7.2.2.2.2.2.2.2.2.2.2.2.2.1, (x7.2.2.2.2.2.2.2.2.2.2.2.2.2.1, ())))))))))))))))))
       (br ((decide (x7.2.2.2.2.2.1 ≥ (0 : Int))))
        ((Go.Abs.Label.v57.p ((0 : Int), (x7.2.2.2.2.2.1, ()))) ∧
        (Go.Abs.Label.v59.p (x7.2.2.2.2.2.2.2.2.2.2.2.2.1, ((Go.Abs.Label.andI (0 : Int) x7.2.2.2.2.2.1), ()))) ∧
        br ((Bool.not (Go.Abs.Label.hasI x7.2.2.2.2.2.2.2.2.2.2.2.2.1 (Go.Abs.Label.andI (0 : Int) x7.2.2.2.2.2.1))))
         ((k (Go.Abs.AVal.tup ((Go.Abs.AVal.imm (Go.Abs.Ty.int Go.IntKind.i64) ([] : List Int) Bool.false) :: ((Go.Abs.AVal.bool Bool.false) :: []))) []))
         ((Go.Abs.Label.v92.p (x7.2.2.2.2.2.2.2.2.2.2.2.2.2.1, ())) ∧
         (Go.Abs.fitsK Go.IntKind.i64 ((((List.length x7.2.2.2.2.2.2.2.2.2.2.2.2.2.1) : Nat) : Int) - (1 : Int))) ∧
         Go.Abs.Loop (σ := ((List Int) × (Int × (Int × ((List Int) × (Int × ((List ((List Int) × Int)) × (Int × (Int × ((List Int) × Unit)))))))))) (fun K9 x9 =>
           br ((decide (x9.2.1 ≥ (0 : Int))))
            (∃ h11 : (((0 : Int) ≤ x9.2.1) ∧ ((Int.toNat x9.2.1) < (List.length x9.1))),
            ∃ h12 : (((0 : Int) ≤ (x9.1[(Int.toNat x9.2.1)]'h11.2)) ∧ ((Int.toNat (x9.1[(Int.toNat x9.2.1)]'h11.2)) < (List.length x9.2.2.2.2.2.1))),
            br (((decide ((x9.2.2.2.2.2.1[(Int.toNat (x9.1[(Int.toNat x9.2.1)]'h11.2))]'h12.2).2 < (0 : Int))) == Bool.false))
             ((Go.Abs.Label.v57.p ((0 : Int), ((x9.2.2.2.2.2.1[(Int.toNat (x9.1[(Int.toNat x9.2.1)]'h11.2))]'h12.2).2, ()))) ∧
             (Go.Abs.Label.v59.p (x9.2.2.2.2.2.2.2.1, ((Go.Abs.Label.andI (0 : Int) (x9.2.2.2.2.2.1[(Int.toNat (x9.1[(Int.toNat x9.2.1)]'h11.2))]'h12.2).2), ()))) ∧
             br ((Go.Abs.Label.hasI x9.2.2.2.2.2.2.2.1 (Go.Abs.Label.andI (0 : Int) (x9.2.2.2.2.2.1[(Int.toNat (x9.1[(Int.toNat x9.2.1)]'h11.2))]'h12.2).2)))
              ((((List.length x9.2.2.2.2.2.2.2.2.1) + (List.length ((x9.1[(Int.toNat x9.2.1)]'h11.2) :: ([] : List Int)))) ≤ Go.Abs.big) ∧
              (Go.Abs.Label.v73.p ((x9.2.2.2.2.2.1[(Int.toNat (x9.1[(Int.toNat x9.2.1)]'h11.2))]'h12.2).1, ())) ∧
              (Go.Abs.fitsK Go.IntKind.i64 (x9.2.1 - (1 : Int))) ∧
              (K9 (x9.1, ((x9.2.1 - (1 : Int)), (x9.2.2.1, (x9.2.2.2.1, (x9.2.2.2.2.1, (x9.2.2.2.2.2.1, (x9.2.2.2.2.2.2.1, ((Go.Abs.bitsA Go.BinOp.andNot Go.IntKind.i64 (Go.Abs.bitsA Go.BinOp.or Go.IntKind.i64 x9.2.2.2.2.2.2.2.1 (Go.Abs.Label.bitsI (x9.2.2.2.2.2.1[(Int.toNat (x9.1[(Int.toNat x9.2.1)]'h11.2))]'h12.2).1)) x9.2.2.2.2.2.2.1), ((x9.2.2.2.2.2.2.2.2.1 ++ ((x9.1[(Int.toNat x9.2.1)]'h11.2) :: ([] : List Int))), ())))))))))))
              ((Go.Abs.fitsK Go.IntKind.i64 (x9.2.1 - (1 : Int))) ∧
              (K9 (x9.1, ((x9.2.1 - (1 : Int)), (x9.2.2.1, (x9.2.2.2.1, (x9.2.2.2.2.1, (x9.2.2.2.2.2.1, (x9.2.2.2.2.2.2.1, (x9.2.2.2.2.2.2.2.1, (x9.2.2.2.2.2.2.2.2.1, ()))))))))))))
             ((((List.length x9.2.2.2.2.2.2.2.2.1) + (List.length ((x9.1[(Int.toNat x9.2.1)]'h11.2) :: ([] : List Int)))) ≤ Go.Abs.big) ∧
             (Go.Abs.Label.v73.p ((x9.2.2.2.2.2.1[(Int.toNat (x9.1[(Int.toNat x9.2.1)]'h11.2))]'h12.2).1, ())) ∧
             (Go.Abs.fitsK Go.IntKind.i64 (x9.2.1 - (1 : Int))) ∧
             (K9 (x9.1, ((x9.2.1 - (1 : Int)), (x9.2.2.1, (x9.2.2.2.1, (x9.2.2.2.2.1, (x9.2.2.2.2.2.1, (x9.2.2.2.2.2.2.1, ((Go.Abs.bitsA Go.BinOp.andNot Go.IntKind.i64 (Go.Abs.bitsA Go.BinOp.or Go.IntKind.i64 x9.2.2.2.2.2.2.2.1 (Go.Abs.Label.bitsI (x9.2.2.2.2.2.1[(Int.toNat (x9.1[(Int.toNat x9.2.1)]'h11.2))]'h12.2).1)) x9.2.2.2.2.2.2.1), ((x9.2.2.2.2.2.2.2.2.1 ++ ((x9.1[(Int.toNat x9.2.1)]'h11.2) :: ([] : List Int))), ()))))))))))))
            ((Go.Abs.Label.v93.p (x9.2.2.2.2.2.2.2.2.1, ())) ∧
            (Go.Abs.Label.v94.p (x9.2.2.2.2.1, (x9.2.2.2.2.2.1, (x9.2.2.2.2.2.2.1, (x9.2.2.1, ((List.reverse x9.2.2.2.2.2.2.2.2.1), ())))))) ∧
            (k (Go.Abs.AVal.tup ((Go.Abs.AVal.imm (Go.Abs.Ty.int Go.IntKind.i64) (Go.Abs.Label.lessL x9.2.2.2.2.1 x9.2.2.2.2.2.1 x9.2.2.2.2.2.2.1 x9.2.2.1 (List.reverse x9.2.2.2.2.2.2.2.2.1)) Bool.false) :: ((Go.Abs.AVal.bool Bool.true) :: []))) []))) ((x7.2.2.2.2.2.2.2.2.2.2.2.2.2.1, (((((List.length x7.2.2.2.2.2.2.2.2.2.2.2.2.2.1) : Nat) : Int) - (1 : Int)), (x7.2.2.2.2.2.1, (x7.2.2.2.2.2.2.2.2.2.2.2.2.2.1, (x7.2.2.2.2.2.2.2.2.2.1, (x7.2.2.2.2.2.2.2.2.2.2.1, (x7.2.2.2.2.2.2.2.2.2.2.2.1, ((Go.Abs.Label.andI (0 : Int) x7.2.2.2.2.2.1), (([] : List Int), ()))))))))))))
        ((Go.Abs.Label.v83e.p (x7.2.2.2.2.2.2.2.2.2.2.1, (x7.2.2.2.2.2.2.2.2.2.2.2.2.1, ()))) ∧
        br ((decide ((Go.Abs.Label.indexOf (Go.Abs.Label.ban3 x7.2.2.2.2.2.2.2.2.2.2.2.2.1) x7.2.2.2.2.2.2.2.2.2.2.1) < (0 : Int))))
         ((k (Go.Abs.AVal.tup ((Go.Abs.AVal.imm (Go.Abs.Ty.int Go.IntKind.i64) ([] : List Int) Bool.false) :: ((Go.Abs.AVal.bool Bool.false) :: []))) []))
         (∃ h9 : (((0 : Int) ≤ (Go.Abs.Label.indexOf (Go.Abs.Label.ban3 x7.2.2.2.2.2.2.2.2.2.2.2.2.1) x7.2.2.2.2.2.2.2.2.2.2.1)) ∧ ((Int.toNat (Go.Abs.Label.indexOf (Go.Abs.Label.ban3 x7.2.2.2.2.2.2.2.2.2.2.2.2.1) x7.2.2.2.2.2.2.2.2.2.2.1)) < (List.length x7.2.2.2.2.2.2.2.2.2.2.1))),
         (Go.Abs.Label.v73.p ((x7.2.2.2.2.2.2.2.2.2.2.1[(Int.toNat (Go.Abs.Label.indexOf (Go.Abs.Label.ban3 x7.2.2.2.2.2.2.2.2.2.2.2.2.1) x7.2.2.2.2.2.2.2.2.2.2.1))]'h9.2).1, ())) ∧
         (((List.length x7.2.2.2.2.2.2.2.2.2.2.2.2.2.1) + (List.length ((Go.Abs.Label.indexOf (Go.Abs.Label.ban3 x7.2.2.2.2.2.2.2.2.2.2.2.2.1) x7.2.2.2.2.2.2.2.2.2.2.1) :: ([] : List Int)))) ≤ Go.Abs.big) ∧
         (Go.Abs.Label.v92.p ((x7.2.2.2.2.2.2.2.2.2.2.2.2.2.1 ++ ((Go.Abs.Label.indexOf (Go.Abs.Label.ban3 x7.2.2.2.2.2.2.2.2.2.2.2.2.1) x7.2.2.2.2.2.2.2.2.2.2.1) :: ([] : List Int))), ())) ∧
         (Go.Abs.fitsK Go.IntKind.i64 ((((List.length (x7.2.2.2.2.2.2.2.2.2.2.2.2.2.1 ++ ((Go.Abs.Label.indexOf (Go.Abs.Label.ban3 x7.2.2.2.2.2.2.2.2.2.2.2.2.1) x7.2.2.2.2.2.2.2.2.2.2.1) :: ([] : List Int)))) : Nat) : Int) - (1 : Int))) ∧
         Go.Abs.Loop (σ := ((List Int) × (Int × (Int × ((List Int) × (Int × ((List ((List Int) × Int)) × (Int × (Int × ((List Int) × Unit)))))))))) (fun K10 x10 =>
           br ((decide (x10.2.1 ≥ (0 : Int))))
            (∃ h12 : (((0 : Int) ≤ x10.2.1) ∧ ((Int.toNat x10.2.1) < (List.length x10.1))),
            ∃ h13 : (((0 : Int) ≤ (x10.1[(Int.toNat x10.2.1)]'h12.2)) ∧ ((Int.toNat (x10.1[(Int.toNat x10.2.1)]'h12.2)) < (List.length x10.2.2.2.2.2.1))),
            br (((decide ((x10.2.2.2.2.2.1[(Int.toNat (x10.1[(Int.toNat x10.2.1)]'h12.2))]'h13.2).2 < (0 : Int))) == Bool.false))
             ((Go.Abs.Label.v57.p ((0 : Int), ((x10.2.2.2.2.2.1[(Int.toNat (x10.1[(Int.toNat x10.2.1)]'h12.2))]'h13.2).2, ()))) ∧
             (Go.Abs.Label.v59.p (x10.2.2.2.2.2.2.2.1, ((Go.Abs.Label.andI (0 : Int) (x10.2.2.2.2.2.1[(Int.toNat (x10.1[(Int.toNat x10.2.1)]'h12.2))]'h13.2).2), ()))) ∧
             br ((Go.Abs.Label.hasI x10.2.2.2.2.2.2.2.1 (Go.Abs.Label.andI (0 : Int) (x10.2.2.2.2.2.1[(Int.toNat (x10.1[(Int.toNat x10.2.1)]'h12.2))]'h13.2).2)))
              ((((List.length x10.2.2.2.2.2.2.2.2.1) + (List.length ((x10.1[(Int.toNat x10.2.1)]'h12.2) :: ([] : List Int)))) ≤ Go.Abs.big) ∧
              (Go.Abs.Label.v73.p ((x10.2.2.2.2.2.1[(Int.toNat (x10.1[(Int.toNat x10.2.1)]'h12.2))]'h13.2).1, ())) ∧
              (Go.Abs.fitsK Go.IntKind.i64 (x10.2.1 - (1 : Int))) ∧
              (K10 (x10.1, ((x10.2.1 - (1 : Int)), (x10.2.2.1, (x10.2.2.2.1, (x10.2.2.2.2.1, (x10.2.2.2.2.2.1, (x10.2.2.2.2.2.2.1, ((Go.Abs.bitsA Go.BinOp.andNot Go.IntKind.i64 (Go.Abs.bitsA Go.BinOp.or Go.IntKind.i64 x10.2.2.2.2.2.2.2.1 (Go.Abs.Label.bitsI (x10.2.2.2.2.2.1[(Int.toNat (x10.1[(Int.toNat x10.2.1)]'h12.2))]'h13.2).1)) x10.2.2.2.2.2.2.1), ((x10.2.2.2.2.2.2.2.2.1 ++ ((x10.1[(Int.toNat x10.2.1)]'h12.2) :: ([] : List Int))), ())))))))))))
              ((Go.Abs.fitsK Go.IntKind.i64 (x10.2.1 - (1 : Int))) ∧
              (K10 (x10.1, ((x10.2.1 - (1 : Int)), (x10.2.2.1, (x10.2.2.2.1, (x10.2.2.2.2.1, (x10.2.2.2.2.2.1, (x10.2.2.2.2.2.2.1, (x10.2.2.2.2.2.2.2.1, (x10.2.2.2.2.2.2.2.2.1, ()))))))))))))
             ((((List.length x10.2.2.2.2.2.2.2.2.1) + (List.length ((x10.1[(Int.toNat x10.2.1)]'h12.2) :: ([] : List Int)))) ≤ Go.Abs.big) ∧
             (Go.Abs.Label.v73.p ((x10.2.2.2.2.2.1[(Int.toNat (x10.1[(Int.toNat x10.2.1)]'h12.2))]'h13.2).1, ())) ∧
             (Go.Abs.fitsK Go.IntKind.i64 (x10.2.1 - (1 : Int))) ∧
             (K10 (x10.1, ((x10.2.1 - (1 : Int)), (x10.2.2.1, (x10.2.2.2.1, (x10.2.2.2.2.1, (x10.2.2.2.2.2.1, (x10.2.2.2.2.2.2.1, ((Go.Abs.bitsA Go.BinOp.andNot Go.IntKind.i64 (Go.Abs.bitsA Go.BinOp.or Go.IntKind.i64 x10.2.2.2.2.2.2.2.1 (Go.Abs.Label.bitsI (x10.2.2.2.2.2.1[(Int.toNat (x10.1[(Int.toNat x10.2.1)]'h12.2))]'h13.2).1)) x10.2.2.2.2.2.2.1), ((x10.2.2.2.2.2.2.2.2.1 ++ ((x10.1[(Int.toNat x10.2.1)]'h12.2) :: ([] : List Int))), ()))))))))))))
            ((Go.Abs.Label.v93.p (x10.2.2.2.2.2.2.2.2.1, ())) ∧
            (Go.Abs.Label.v94.p (x10.2.2.2.2.1, (x10.2.2.2.2.2.1, (x10.2.2.2.2.2.2.1, (x10.2.2.1, ((List.reverse x10.2.2.2.2.2.2.2.2.1), ())))))) ∧
            (k (Go.Abs.AVal.tup ((Go.Abs.AVal.imm (Go.Abs.Ty.int Go.IntKind.i64) (Go.Abs.Label.lessL x10.2.2.2.2.1 x10.2.2.2.2.2.1 x10.2.2.2.2.2.2.1 x10.2.2.1 (List.reverse x10.2.2.2.2.2.2.2.2.1)) Bool.false) :: ((Go.Abs.AVal.bool Bool.true) :: []))) []))) (((x7.2.2.2.2.2.2.2.2.2.2.2.2.2.1 ++ ((Go.Abs.Label.indexOf (Go.Abs.Label.ban3 x7.2.2.2.2.2.2.2.2.2.2.2.2.1) x7.2.2.2.2.2.2.2.2.2.2.1) :: ([] : List Int))), (((((List.length (x7.2.2.2.2.2.2.2.2.2.2.2.2.2.1 ++ ((Go.Abs.Label.indexOf (Go.Abs.Label.ban3 x7.2.2.2.2.2.2.2.2.2.2.2.2.1) x7.2.2.2.2.2.2.2.2.2.2.1) :: ([] : List Int)))) : Nat) : Int) - (1 : Int)), (x7.2.2.2.2.2.1, ((x7.2.2.2.2.2.2.2.2.2.2.2.2.2.1 ++ ((Go.Abs.Label.indexOf (Go.Abs.Label.ban3 x7.2.2.2.2.2.2.2.2.2.2.2.2.1) x7.2.2.2.2.2.2.2.2.2.2.1) :: ([] : List Int))), (x7.2.2.2.2.2.2.2.2.2.1, (x7.2.2.2.2.2.2.2.2.2.2.1, (x7.2.2.2.2.2.2.2.2.2.2.2.1, ((Go.Abs.Label.bitsI (x7.2.2.2.2.2.2.2.2.2.2.1[(Int.toNat (Go.Abs.Label.indexOf (Go.Abs.Label.ban3 x7.2.2.2.2.2.2.2.2.2.2.2.2.1) x7.2.2.2.2.2.2.2.2.2.2.1))]'h9.2).1), (([] : List Int), ())))))))))))))) ((x5.2.1, (x5.2.2.1, (x5.2.2.2.2.1, ((Go.Abs.Label.wants x5.2.2.1 x5.2.2.2.2.1), ((0 : Int), (x5.1, (x5.2.1, (x5.2.2.1, (x5.2.2.2.2.1, (x5.2.1, (x5.2.2.1, (x5.2.2.2.1, (x5.2.2.2.2.1, (x5.2.2.2.2.2.1, ())))))))))))))))) ((x, (w, (rs, (b, (b, (([] : List Int), ())))))))
theorem eq75 (w : Int) (rs : List (List Int × Int)) (b : Int) (x : Int) (k : AVal → List Cont → Prop) : awpF (envOf [(78, mkC [v78]), (57, mkC [v57]), (59, mkC [v59]), (79, mkC [v79]), (83, mkC [v83e]), (73, mkC [v73]), (92, mkC [v92]), (93, mkC [v93]), (94, mkC [v94])]) Tryz.prog kt 75 true Tryz.f75 (v75.args (w, rs, b, x, ())) (v75.conts (w, rs, b, x, ())) k = vc75 w rs b x k := by kernel_rfl
theorem tx75 : (Tryz.f75.body.map Code.textsOk).getD true = true := by kernel_rfl

end Go.Abs.Label
end

section
/- The label's functions keep their contracts: steps. -/
open Go.Proofs
set_option maxRecDepth 100000
set_option linter.unusedVariables false
namespace Go.Abs.Label

theorem rule_at {rs : List (List Int × Int)} {i : Int} (h0 : 0 ≤ i) (h : i.toNat < rs.length) : ruleAt rs i = rs[i.toNat] := by
  unfold ruleAt
  rw [List.getD_eq_getElem?_getD, List.getElem?_eq_getElem h]; rfl
theorem or_lt2 {a b : Nat} (ha : a < 1024) (hb : b < 1024) : a ||| b < 1024 := Nat.or_lt_two_pow (n := 10) ha hb
def backN (rs : List (List Int × Int)) (b need : Nat) (out : List Int) (j : Nat) : Nat × List Int := (out.reverse.take j).foldl (backS rs b) (need, [])
theorem backN_succ {rs : List (List Int × Int)} {b need : Nat} {out : List Int} {j : Nat} (hj : j < out.length) : backN rs b need out (j + 1) = backS rs b (backN rs b need out j) (out[out.length - 1 - j]'(by omega)) := by
  unfold backN
  rw [List.take_succ_eq_append_getElem (by simpa using hj), List.foldl_append, List.getElem_reverse]; rfl
theorem has_one' {c : Nat} {t : Int} (c0 : Int) (hc : c0 = (c : Int)) : hasI c0 (andI 0 t) = c.testBit t.toNat := by
  subst hc
  unfold hasI andI
  rw [Int.toNat_natCast, Int.toNat_natCast]
  exact has_one
theorem bits_zero : isB 0 := ⟨by omega, by omega⟩

theorem back_loop {k : AVal → List Cont → Prop} {w : Int} {rs : List (List Int × Int)} {b : Nat} {x : Int} {out : List Int} {need : Nat} (hg : Gd w rs) (hb : b < 1024) (hout : ∀ i ∈ out, 0 ≤ i ∧ i.toNat < rs.length) (hol : out.length ≤ 11) (hneed : need < 1024)
    (hk : k (.tup [.imm (.int .i64) (lessL w rs (b : Int) x (backOf rs b need out)) false, .bool true]) []) :
    Go.Abs.Loop (σ := ((List Int) × (Int × (Int × ((List Int) × (Int × ((List ((List Int) × Int)) × (Int × (Int × ((List Int) × Unit)))))))))) (fun K9 x9 =>
           br ((decide (x9.2.1 ≥ (0 : Int))))
            (∃ h11 : (((0 : Int) ≤ x9.2.1) ∧ ((Int.toNat x9.2.1) < (List.length x9.1))),
            ∃ h12 : (((0 : Int) ≤ (x9.1[(Int.toNat x9.2.1)]'h11.2)) ∧ ((Int.toNat (x9.1[(Int.toNat x9.2.1)]'h11.2)) < (List.length x9.2.2.2.2.2.1))),
            br (((decide ((x9.2.2.2.2.2.1[(Int.toNat (x9.1[(Int.toNat x9.2.1)]'h11.2))]'h12.2).2 < (0 : Int))) == Bool.false))
             ((Go.Abs.Label.v57.p ((0 : Int), ((x9.2.2.2.2.2.1[(Int.toNat (x9.1[(Int.toNat x9.2.1)]'h11.2))]'h12.2).2, ()))) ∧
             (Go.Abs.Label.v59.p (x9.2.2.2.2.2.2.2.1, ((Go.Abs.Label.andI (0 : Int) (x9.2.2.2.2.2.1[(Int.toNat (x9.1[(Int.toNat x9.2.1)]'h11.2))]'h12.2).2), ()))) ∧
             br ((Go.Abs.Label.hasI x9.2.2.2.2.2.2.2.1 (Go.Abs.Label.andI (0 : Int) (x9.2.2.2.2.2.1[(Int.toNat (x9.1[(Int.toNat x9.2.1)]'h11.2))]'h12.2).2)))
              ((((List.length x9.2.2.2.2.2.2.2.2.1) + (List.length ((x9.1[(Int.toNat x9.2.1)]'h11.2) :: ([] : List Int)))) ≤ Go.Abs.big) ∧
              (Go.Abs.Label.v73.p ((x9.2.2.2.2.2.1[(Int.toNat (x9.1[(Int.toNat x9.2.1)]'h11.2))]'h12.2).1, ())) ∧
              (Go.Abs.fitsK Go.IntKind.i64 (x9.2.1 - (1 : Int))) ∧
              (K9 (x9.1, ((x9.2.1 - (1 : Int)), (x9.2.2.1, (x9.2.2.2.1, (x9.2.2.2.2.1, (x9.2.2.2.2.2.1, (x9.2.2.2.2.2.2.1, ((Go.Abs.bitsA Go.BinOp.andNot Go.IntKind.i64 (Go.Abs.bitsA Go.BinOp.or Go.IntKind.i64 x9.2.2.2.2.2.2.2.1 (Go.Abs.Label.bitsI (x9.2.2.2.2.2.1[(Int.toNat (x9.1[(Int.toNat x9.2.1)]'h11.2))]'h12.2).1)) x9.2.2.2.2.2.2.1), ((x9.2.2.2.2.2.2.2.2.1 ++ ((x9.1[(Int.toNat x9.2.1)]'h11.2) :: ([] : List Int))), ())))))))))))
              ((Go.Abs.fitsK Go.IntKind.i64 (x9.2.1 - (1 : Int))) ∧
              (K9 (x9.1, ((x9.2.1 - (1 : Int)), (x9.2.2.1, (x9.2.2.2.1, (x9.2.2.2.2.1, (x9.2.2.2.2.2.1, (x9.2.2.2.2.2.2.1, (x9.2.2.2.2.2.2.2.1, (x9.2.2.2.2.2.2.2.2.1, ()))))))))))))
             ((((List.length x9.2.2.2.2.2.2.2.2.1) + (List.length ((x9.1[(Int.toNat x9.2.1)]'h11.2) :: ([] : List Int)))) ≤ Go.Abs.big) ∧
             (Go.Abs.Label.v73.p ((x9.2.2.2.2.2.1[(Int.toNat (x9.1[(Int.toNat x9.2.1)]'h11.2))]'h12.2).1, ())) ∧
             (Go.Abs.fitsK Go.IntKind.i64 (x9.2.1 - (1 : Int))) ∧
             (K9 (x9.1, ((x9.2.1 - (1 : Int)), (x9.2.2.1, (x9.2.2.2.1, (x9.2.2.2.2.1, (x9.2.2.2.2.2.1, (x9.2.2.2.2.2.2.1, ((Go.Abs.bitsA Go.BinOp.andNot Go.IntKind.i64 (Go.Abs.bitsA Go.BinOp.or Go.IntKind.i64 x9.2.2.2.2.2.2.2.1 (Go.Abs.Label.bitsI (x9.2.2.2.2.2.1[(Int.toNat (x9.1[(Int.toNat x9.2.1)]'h11.2))]'h12.2).1)) x9.2.2.2.2.2.2.1), ((x9.2.2.2.2.2.2.2.2.1 ++ ((x9.1[(Int.toNat x9.2.1)]'h11.2) :: ([] : List Int))), ()))))))))))))
            ((Go.Abs.Label.v93.p (x9.2.2.2.2.2.2.2.2.1, ())) ∧
            (Go.Abs.Label.v94.p (x9.2.2.2.2.1, (x9.2.2.2.2.2.1, (x9.2.2.2.2.2.2.1, (x9.2.2.1, ((List.reverse x9.2.2.2.2.2.2.2.2.1), ())))))) ∧
            (k (Go.Abs.AVal.tup ((Go.Abs.AVal.imm (Go.Abs.Ty.int Go.IntKind.i64) (Go.Abs.Label.lessL x9.2.2.2.2.1 x9.2.2.2.2.2.1 x9.2.2.2.2.2.2.1 x9.2.2.1 (List.reverse x9.2.2.2.2.2.2.2.2.1)) Bool.false) :: ((Go.Abs.AVal.bool Bool.true) :: []))) []))) (out, (((out.length : Nat) : Int) - (1 : Int)), x, out, w, rs, (b : Int), (need : Int), ([] : List Int), ()) := by
  refine Loop.upto (fun j => (out, ((out.length : Nat) : Int) - 1 - (j : Int), x, out, w, rs, (b : Int), ((backN rs b need out j).1 : Int), (backN rs b need out j).2, ())) (fun j => (backN rs b need out j).1 < 1024 ∧ (backN rs b need out j).2.length ≤ j) out.length (by simp [backN]) ⟨hneed, Nat.zero_le _⟩ ?_ ?_
  · intro j K_j hj hp_j hK_j
    dsimp only
    rw [br_decide]
    refine ⟨fun _ => ?_, fun h => absurd hj (by omega)⟩
    try simp only [Int.toNat_natCast]
    obtain ⟨hp1, hp2⟩ := hp_j
    have et : Int.toNat (((out.length : Nat) : Int) - 1 - (j : Int)) = out.length - 1 - j := by omega
    have hi : out.length - 1 - j < out.length := by omega
    have hoi := hout _ (List.getElem_mem hi)
    have hN := backN_succ (rs := rs) (b := b) (need := need) hj
    simp only [et]
    refine ⟨⟨by omega, hi⟩, ?_⟩
    obtain ⟨e, hei⟩ : ∃ e, out[out.length - 1 - j]'hi = e := ⟨_, rfl⟩
    simp only [hei] at hoi hN ⊢
    refine ⟨hoi, ?_⟩
    have hr := List.getElem_mem hoi.2
    have hth := gd_then hg _ hr
    have hif := gd_if hg hr
    have hra := rule_at hoi.1 hoi.2
    unfold backS at hN
    rw [hra] at hN
    obtain ⟨r, hrr⟩ : ∃ r, rs[e.toNat]'hoi.2 = r := ⟨_, rfl⟩
    simp only [hrr] at hr hth hif hN ⊢
    have hs : (((out.length : Nat) : Int) - 1 - (j : Int)) - 1 = ((out.length : Nat) : Int) - 1 - ((j + 1 : Nat) : Int) := by omega
    obtain ⟨c, hc⟩ : ∃ c, backN rs b need out j = c := ⟨_, rfl⟩
    simp only [hc] at hp1 hp2 hN hK_j ⊢
    have hor : bitsA .andNot .i64 (bitsA .or .i64 ((c.1 : Nat) : Int) (bitsI r.1)) (b : Int) = ((andNot (c.1 ||| bitsL r.1) b : Nat) : Int) := by
      have hl := bitsL_lt hif.2
      unfold bitsI
      rw [lor_nat c.1 (bitsL r.1) (by omega) (by omega), notI_nat (or_lt2 hp1 hl) hb]
    have yes : (r.2 < 0 ∨ c.1.testBit r.2.toNat = true) → backN rs b need out (j + 1) = (andNot (c.1 ||| bitsL r.1) b, c.2 ++ [e]) := fun h => by rw [hN, if_pos h]
    have no : ¬ (r.2 < 0 ∨ c.1.testBit r.2.toNat = true) → backN rs b need out (j + 1) = c := fun h => by rw [hN, if_neg h]
    have hbig : c.2.length + [e].length ≤ big := by
      show c.2.length + 1 ≤ 1099511627776
      omega
    have h73 : v73.p (r.1, ()) := ⟨(show r.1.length ≤ 1000 by have := hif.1; omega), hif.2⟩
    have hf : fitsK .i64 ((((out.length : Nat) : Int) - 1 - (j : Int)) - 1) := fits64 (by omega) (by omega)
    have fin : ∀ h : (r.2 < 0 ∨ c.1.testBit r.2.toNat = true), K_j (out, (((out.length : Nat) : Int) - 1 - (j : Int)) - 1, x, out, w, rs, (b : Int), bitsA .andNot .i64 (bitsA .or .i64 ((c.1 : Nat) : Int) (bitsI r.1)) (b : Int), c.2 ++ [e], ()) := fun h => by
      have := hK_j (by rw [yes h]; exact ⟨notI_lt (or_lt2 hp1 (bitsL_lt hif.2)), by simp; omega⟩)
      rw [yes h] at this
      rw [hs, hor]
      exact this
    rw [br_false]
    refine ⟨fun h => ?_, fun h => ⟨hbig, h73, hf, fin (.inl h)⟩⟩
    have h0 : 0 ≤ r.2 := by omega
    have hcB : isB ((c.1 : Nat) : Int) := ⟨by omega, by omega⟩
    refine ⟨⟨bits_zero, h0, hth⟩, ⟨hcB, andI_isB bits_zero h0 hth⟩, ?_⟩
    rw [has_one' _ rfl]
    refine br_intro (fun h2 => ⟨hbig, h73, hf, fin (.inr h2)⟩) (fun h2 => ⟨hf, ?_⟩)
    have hn : ¬ (r.2 < 0 ∨ c.1.testBit r.2.toNat = true) := fun h => h.elim (fun h => by omega) (fun h => by rw [h2] at h; cases h)
    have := hK_j (by rw [no hn]; exact ⟨hp1, by omega⟩)
    rw [no hn] at this
    rw [hs]
    exact this
  · intro K_j hp_j
    dsimp only
    rw [br_decide]
    refine ⟨fun h => absurd h (by omega), fun _ => ?_⟩
    obtain ⟨hp1, hp2⟩ := hp_j
    have e : (backN rs b need out out.length).2.reverse = backOf rs b need out := by
      unfold backN backOf
      rw [List.take_of_length_le (by simp)]
    rw [e]
    have hl : (backOf rs b need out).length ≤ 11 := by rw [← e, List.length_reverse]; omega
    exact ⟨(show (backN rs b need out out.length).2.length ≤ 1000 by omega), ⟨hg, ⟨(show (0 : Int) ≤ (b : Int) by omega), (show (b : Int) < 1024 by omega)⟩, (show ((backN rs b need out out.length).2.reverse).length ≤ 1000 by rw [e]; omega)⟩, hk⟩

theorem runS_stop {rs : List (List Int × Int)} {n c : Nat} {out : List Int} (h : ∀ r ∈ rs, grantR c r = false) : runS rs n (c, out) = (c, out) := by
  cases n with
  | zero => rfl
  | succ n =>
    unfold runS
    rw [indexOf_none _ _ h, if_pos (by omega)]
theorem runS_go {rs : List (List Int × Int)} {n c i : Nat} {out : List Int} (hi : i < rs.length) (h : ∀ r ∈ rs.take i, grantR c r = false) (h0 : grantR c rs[i] = true) :
    runS rs (n + 1) (c, out) = runS rs n (c ||| 2 ^ (rs[i]).2.toNat, out ++ [(i : Int)]) := by
  conv => lhs; unfold runS
  rw [indexOf_some _ _ i hi h h0, if_neg (by omega), rule_at (by omega) (by simpa using hi)]
  simp only [Int.toNat_natCast]
theorem indexOf_range {α : Type} (p : α → Bool) (l : List α) (h : ¬ indexOf p l < 0) : 0 ≤ indexOf p l ∧ (indexOf p l).toNat < l.length := by
  refine ⟨by omega, ?_⟩
  have : ∀ l : List α, indexOf p l < l.length := by
    intro l
    induction l with
    | nil => simp [indexOf]
    | cons x l ih =>
      unfold indexOf
      simp only [List.length_cons]
      split
      · omega
      · split <;> omega
  have := this l
  omega

theorem k75 (hG : Good Tryz.prog (envOf [(78, mkC [v78]), (57, mkC [v57]), (59, mkC [v59]), (79, mkC [v79]), (83, mkC [v83e]), (73, mkC [v73]), (92, mkC [v92]), (93, mkC [v93]), (94, mkC [v94])])) : v75.Kept Tryz.prog 75 := by
  rintro ⟨w, rs, b, x, ⟨⟩⟩ hpre k hk
  change Int at w
  change List (List Int × Int) at rs
  change Int at b
  change Int at x
  refine aspec hmix hG Tryz.func75 tx75 (Eq.mpr (eq75 w rs b x k) ?_)
  replace hk : k (.tup [.imm (.int .i64) (stepL w rs b x) false, .bool (hasSteps rs b x)]) [] := hk
  unfold vc75
  obtain ⟨hg, hb, hx0, hx1⟩ := hpre
  have hg : Gd w rs := hg
  have hb : isB b := hb
  have hx0 : -1 ≤ x := hx0
  have hx1 : x < w := hx1
  have h1 : 0 ≤ b := hb.1
  have h2 : b < 1024 := hb.2
  obtain ⟨hw1, hw2, hrl, _⟩ := guild_spec hg
  have hok := gd_then hg
  obtain ⟨b, rfl⟩ := Int.eq_ofNat_of_zero_le h1
  refine Loop.intro (fun y => ∃ (c : Nat) (out : List Int), y = (x, w, rs, (b : Int), (c : Int), out, ()) ∧ c < 1024 ∧ runS rs (11 - out.length) (c, out) = runOf rs b ∧ out.length ≤ (listed c 10).length ∧ ∀ i ∈ out, 0 ≤ i ∧ i.toNat < rs.length) (fun y => 10 - (listed y.2.2.2.2.1.toNat 10).length) ?_ ⟨b, [], rfl, by omega, rfl, Nat.zero_le _, fun i hi => absurd hi (by simp)⟩
  rintro _ K ⟨c, out, rfl, hc, hrun, hol, hout⟩ hK
  dsimp only
  have hl10 := listed_len c 10
  have hcB : isB (c : Int) := ⟨by omega, by omega⟩
  refine ⟨trivial, ⟨hg, hcB⟩, ?_⟩
  have hwl : (wants rs (c : Int)).length = 12 := wants_len hrl _
  refine Loop.upto (fun i => (w, rs, (c : Int), wants rs (c : Int), (i : Int), x, w, rs, (c : Int), w, rs, (b : Int), (c : Int), out, ())) (fun i => ∀ r ∈ rs.take i, grantR c r = false) 12 rfl (by simp) ?_ ?_
  · intro i K_i hi hp_i hK_i
    dsimp only
    rw [br_decide]
    refine ⟨fun _ => ?_, fun h => absurd hi (by omega)⟩
    try simp only [Int.toNat_natCast]
    have nx : (∀ (hj : i < rs.length), grantR c rs[i] = false) → ∀ r ∈ rs.take (i + 1), grantR c r = false := by
      intro h r hr
      rcases Nat.lt_or_ge i rs.length with hj | hj
      · rw [List.take_succ_eq_append_getElem hj] at hr
        rcases List.mem_append.1 hr with hr | hr
        · exact hp_i r hr
        · rw [List.mem_singleton.1 hr]; exact h hj
      · rw [List.take_of_length_le (by omega)] at hr
        exact hp_i r (by rw [List.take_of_length_le (by omega)]; exact hr)
    refine ⟨⟨by omega, by omega⟩, by omega, hwl, ?_⟩
    rw [br_true]
    refine ⟨fun g1 => ?_, fun g1 => ⟨fits64 (by omega) (by omega), hK_i (nx fun hj => by omega)⟩⟩
    have hir : i < rs.length := by omega
    have hif := gd_if hg (List.getElem_mem hir)
    have hth := hok _ (List.getElem_mem hir)
    have hlz := lack_zero (b := c) (bitsL_lt hif.2)
    rw [br_bt]
    refine ⟨fun g2 => ?_, fun g2 => ⟨fits64 (by omega) (by omega), hK_i (nx fun hj => ?_)⟩⟩
    · have hs : subB (bitsL rs[i].1) c = true := by
        rw [wants_at hir, beq_iff_eq, Int.toNat_natCast] at g2
        exact hlz.1 (by omega)
      refine ⟨⟨by omega, by omega⟩, ?_⟩
      rw [br_true]
      refine ⟨fun g3 => ?_, fun g3 => ⟨fits64 (by omega) (by omega), hK_i (nx fun hj => ?_)⟩⟩
      · have g3 : 0 ≤ rs[i].2 := g3
        refine ⟨⟨by omega, by omega⟩, ⟨bits_zero, g3, hth⟩, ⟨hcB, andI_isB bits_zero g3 hth⟩, ?_⟩
        rw [has_one' _ rfl, br_bt]
        refine ⟨fun g4 => ?_, fun g4 => ⟨fits64 (by omega) (by omega), hK_i (nx fun hj => ?_)⟩⟩
        · have g4 : c.testBit rs[i].2.toNat = false := by simpa using g4
          have h0 : grantR c rs[i] = true := by
            unfold grantR
            rw [hs, g4, decide_eq_true g3]; rfl
          have h5 := listed_strict (sub_or c (2 ^ rs[i].2.toNat)) g4 (or_test.2 (.inr rfl)) 10 (by omega)
          have h6 := listed_len (c ||| 2 ^ rs[i].2.toNat) 10
          have hT : List.take out.length (List.drop 0 out) ++ [(i : Int)] = out ++ [(i : Int)] := by
            rw [List.drop_zero, List.take_length]
          refine ⟨⟨by omega, by omega⟩, ⟨hcB, g3, hth⟩, ⟨by omega, by omega, trivial⟩, (by show out.length + 1 ≤ 1099511627776; omega), by simp, ?_⟩
          rw [hT]
          have ea : andI (c : Int) rs[i].2 = ((c ||| 2 ^ rs[i].2.toNat : Nat) : Int) := by unfold andI; rw [Int.toNat_natCast]
          rw [ea]
          refine hK _ ⟨c ||| 2 ^ rs[i].2.toNat, out ++ [(i : Int)], rfl, or_lt hc (by omega), ?_, by simp; omega, ?_⟩ ?_
          · rw [← hrun, show 11 - out.length = (11 - (out ++ [(i : Int)]).length) + 1 by simp; omega, runS_go hir hp_i h0]
          · intro j hj
            rcases List.mem_append.1 hj with hj | hj
            · exact hout j hj
            · rw [List.mem_singleton.1 hj]; exact ⟨by omega, by simpa using hir⟩
          · dsimp only
            rw [Int.toNat_natCast, Int.toNat_natCast]
            omega
        · have g4 : c.testBit rs[i].2.toNat = true := by simpa using g4
          unfold grantR
          rw [g4]; simp
      · unfold grantR
        rw [decide_eq_false g3]; rfl
    · rw [wants_at hir, beq_eq_false_iff_ne, Int.toNat_natCast] at g2
      unfold grantR
      have : subB (bitsL rs[i].1) c = false := by
        cases h : subB (bitsL rs[i].1) c with
        | false => rfl
        | true => exact absurd (hlz.2 h) (by omega)
      rw [this]; simp
  · intro K_i hp_i
    dsimp only
    rw [br_decide]
    refine ⟨fun h => absurd h (by omega), fun _ => ?_⟩
    have hall : ∀ r ∈ rs, grantR c r = false := fun r hr => hp_i r (by rw [List.take_of_length_le hrl]; exact hr)
    have hro : runOf rs b = (c, out) := by rw [← hrun]; exact runS_stop hall
    have h11 : out.length ≤ 10 := by omega
    have hgo := gd_goodIfs hg
    rw [br_decide]
    refine ⟨fun hx => ?_, fun hx => ?_⟩
    · have hx9 : x ≤ 9 := by omega
      have e1 : hasSteps rs (b : Int) x = c.testBit x.toNat := by
        unfold hasSteps
        rw [if_pos hx, Int.toNat_natCast, hro]
      refine ⟨⟨bits_zero, hx, hx9⟩, ⟨hcB, andI_isB bits_zero hx hx9⟩, ?_⟩
      rw [has_one' _ rfl, br_not]
      refine ⟨fun h => ?_, fun h => ⟨trivial, fits64 (by omega) (by omega), ?_⟩⟩
      · have e2 : stepL w rs (b : Int) x = [] := by unfold stepL; rw [e1, h]; rfl
        rw [e1, e2, h] at hk
        exact hk
      · have e2 : stepL w rs (b : Int) x = lessL w rs (b : Int) x (backOf rs b (2 ^ x.toNat) out) := by
          unfold stepL rawS
          rw [e1, h, if_pos rfl, if_pos hx, Int.toNat_natCast, hro]
        have ea : andI 0 x = ((2 ^ x.toNat : Nat) : Int) := by unfold andI; simp
        rw [ea]
        refine back_loop hg (by omega) hout (by omega) ?_ ?_
        · exact Nat.pow_lt_pow_right (n := 10) (by omega) (by omega)
        · rw [e1, e2, h] at hk
          exact hk
    · refine ⟨⟨(show rs.length ≤ 1000 by omega), hgo, hcB⟩, ?_⟩
      have e1 : hasSteps rs (b : Int) x = !decide (indexOf (ban3 (c : Int)) rs < 0) := by
        unfold hasSteps
        rw [if_neg (by omega), Int.toNat_natCast, hro]
      rw [br_decide]
      refine ⟨fun h => ?_, fun h => ?_⟩
      · have e3 : hasSteps rs (b : Int) x = false := by rw [e1, decide_eq_true h]; rfl
        have e2 : stepL w rs (b : Int) x = [] := by unfold stepL; rw [e3]; rfl
        rw [e3, e2] at hk
        exact hk
      · have e3 : hasSteps rs (b : Int) x = true := by rw [e1, decide_eq_false h]; rfl
        have hir := indexOf_range _ _ h
        have hif := gd_if hg (List.getElem_mem hir.2)
        have hra := rule_at hir.1 hir.2
        have e2 : stepL w rs (b : Int) x = lessL w rs (b : Int) x (backOf rs b (bitsL (rs[(indexOf (ban3 (c : Int)) rs).toNat]'hir.2).1) (out ++ [indexOf (ban3 (c : Int)) rs])) := by
          unfold stepL rawS
          rw [e3, if_pos rfl, if_neg (by omega), Int.toNat_natCast, hro, hra]
        refine ⟨hir, ⟨(show (rs[(indexOf (ban3 (c : Int)) rs).toNat]'hir.2).1.length ≤ 1000 by have := hif.1; omega), hif.2⟩, ?_, trivial, ?_, ?_⟩
        · show out.length + 1 ≤ 1099511627776
          omega
        · exact fits64 (by simp <;> omega) (by simp <;> omega)
        · refine back_loop hg (by omega) ?_ (by simp; omega) (bitsL_lt hif.2) ?_
          · intro j hj
            rcases List.mem_append.1 hj with hj | hj
            · exact hout j hj
            · rw [List.mem_singleton.1 hj]; exact hir
          · rw [e3, e2] at hk
            exact hk
end Go.Abs.Label
end

section
/- The label's functions keep their contracts: steps that lead to a word. -/
open Go.Proofs
set_option maxRecDepth 100000
set_option linter.unusedVariables false
namespace Go.Abs.Label

theorem runS_len (rs : List (List Int × Int)) : ∀ (n : Nat) (s : Nat × List Int), (runS rs n s).2.length ≤ s.2.length + n
  | 0, s => by unfold runS; omega
  | n + 1, s => by
    unfold runS
    split
    · omega
    · have := runS_len rs n (s.1 ||| 2 ^ (ruleAt rs (indexOf (grantR s.1) rs)).2.toNat, s.2 ++ [indexOf (grantR s.1) rs])
      simp only [List.length_append, List.length_cons, List.length_nil] at this
      omega
theorem backS_len (rs : List (List Int × Int)) (b : Nat) : ∀ (l : List Int) (s : Nat × List Int), (l.foldl (backS rs b) s).2.length ≤ s.2.length + l.length
  | [], s => by simp
  | i :: l, s => by
    have := backS_len rs b l (backS rs b s i)
    have h : (backS rs b s i).2.length ≤ s.2.length + 1 := by
      unfold backS
      split <;> simp
    simp only [List.foldl_cons, List.length_cons]
    omega
theorem backOf_len (rs : List (List Int × Int)) (b need : Nat) (out : List Int) : (backOf rs b need out).length ≤ out.length := by
  have := backS_len rs b out.reverse (need, [])
  unfold backOf
  rw [List.length_reverse]
  simpa using this
theorem lessS_len (w : Int) (rs : List (List Int × Int)) (b word : Int) : ∀ (n : Nat) (s : List Int), (lessS w rs b word n s).length ≤ s.length
  | 0, s => Nat.le_refl _
  | n + 1, s => by
    unfold lessS
    split
    · exact Nat.le_refl _
    · refine Nat.le_trans (lessS_len w rs b word n _) ?_
      exact (List.eraseIdx_sublist _ _).length_le
theorem stepL_len (w : Int) (rs : List (List Int × Int)) (b word : Int) : (stepL w rs b word).length ≤ 12 := by
  have hr : (rawS rs b word).length ≤ 12 := by
    have h1 := runS_len rs 11 (b.toNat, [])
    have h1 : (runOf rs b.toNat).2.length ≤ 11 := by simpa [runOf] using h1
    unfold rawS
    split
    · exact Nat.le_trans (backOf_len _ _ _ _) (by omega)
    · exact Nat.le_trans (backOf_len _ _ _ _) (by simp; omega)
  unfold stepL
  split
  · exact Nat.le_trans (lessS_len _ _ _ _ _ _) hr
  · simp

theorem k32 (hG : Good Tryz.prog (envOf [(42, mkC [v42]), (50, mkC [v50]), (75, mkC [v75])])) : v32.Kept Tryz.prog 32 := by
  rintro ⟨w, rs, l, x, ⟨⟩⟩ hpre k hk
  change Int at w
  change List (List Int × Int) at rs
  change List Int at l
  change Int at x
  refine aspec hmix hG Tryz.func32 tx32 (Eq.mpr (eq32 w rs l x k) ?_)
  replace hk : k (.tup [.reg 0 false, rI (stepErr w rs l x)]) [.sl (.int .i64) (stepsL w rs l x)] := hk
  unfold vc32
  obtain ⟨hs, h2⟩ := hpre
  have hs : smallG rs := hs
  have h2 : l.length ≤ 1000 := h2
  refine ⟨⟨hs, h2⟩, ?_⟩
  have bad : labelErr w rs l ≠ 0 → stepErr w rs l x = labelErr w rs l ∧ stepsL w rs l x = [] := fun h => by
    have e : stepErr w rs l x = labelErr w rs l := by unfold stepErr; rw [if_pos h]
    exact ⟨e, by unfold stepsL; rw [e, if_neg h]⟩
  refine br_intro (fun h => ?_) (fun h6 => br_intro (fun h => ?_) (fun h2' => br_intro (fun h => ?_) (fun h3 => ?_)))
  · have e := of_decide_eq_true h
    have := bad (by omega)
    rw [this.1, this.2, e] at hk
    exact hk
  · have e := of_decide_eq_true h
    have := bad (by omega)
    rw [this.1, this.2, e] at hk
    exact hk
  · have e := of_decide_eq_true h
    have := bad (by omega)
    rw [this.1, this.2, e] at hk
    exact hk
  have h0 := labelErr_cases w rs l h6 h2' h3
  obtain ⟨hg, hl9, hbB⟩ := label_isB h0
  obtain ⟨hw1, hw2, hrl, _⟩ := guild_spec hg
  have eo : anyOut (-1) (w - 1) [x] = outOf (-1) (w - 1) x := by simp [anyOut]
  refine ⟨fits64 (by omega) (by omega), (show 1 ≤ 1152921504606846976 by omega), ?_⟩
  rw [eo, Bool.not_not]
  have e0 : stepErr w rs l x = if outOf (-1) (w - 1) x then 3 else if hasSteps rs (bitsI l) x then 0 else 5 := by
    unfold stepErr
    rw [if_neg (by omega)]
  refine br_intro (fun h => ?_) (fun h => ?_)
  · rw [h, if_pos rfl] at e0
    have e1 : stepsL w rs l x = [] := by unfold stepsL; rw [e0]; rfl
    rw [e0, e1] at hk
    exact hk
  · rw [h, if_neg (by simp)] at e0
    have hx : -1 ≤ x ∧ x < w := by
      unfold outOf at h
      have := of_decide_eq_false h
      omega
    refine ⟨⟨hg, hbB, hx.1, hx.2⟩, ?_⟩
    rw [br_not]
    refine ⟨fun h2 => ?_, fun h2 => ?_⟩
    · rw [h2, if_neg (by simp)] at e0
      have e1 : stepsL w rs l x = [] := by unfold stepsL; rw [e0]; rfl
      rw [e0, e1] at hk
      exact hk
    · rw [h2, if_pos rfl] at e0
      have e1 : stepsL w rs l x = stepL w rs (bitsI l) x := by unfold stepsL; rw [e0, if_pos rfl]
      have hn := stepL_len w rs (bitsI l) x
      rw [e0, e1] at hk
      refine ⟨⟨by omega, rfl, (show (((stepL w rs (bitsI l) x).length : Nat) : Int) ≤ ((1099511627776 : Nat) : Int) by omega)⟩, ?_⟩
      · generalize stepL w rs (bitsI l) x = s at hk ⊢
        have e : (List.take (List.length (List.replicate (Int.toNat ((s.length : Nat) : Int)) (Int.ofNat 0))) s ++ List.drop s.length (List.replicate (Int.toNat ((s.length : Nat) : Int)) (Int.ofNat 0))) = s := by
          rw [Int.toNat_natCast, List.length_replicate, List.take_length, List.drop_of_length_le (by simp), List.append_nil]
        rw [e]
        exact hk
end Go.Abs.Label
end

section
/- The contracts of the label's functions: room for more rules (slices.Grow). -/
namespace Go.Abs.Label
def growPre : List AVal → List Cont → Prop
  | [.nils (.pair (.slice (.int .i64)) (.int .i64)), .int .i64 n], [] => 0 ≤ n ∧ n ≤ 1000000
  | _, _ => False
def cGrow : Contract := ⟨growPre, fun _ _ => .leaf (.reg 0 false) [.sl (.pair (.slice (.int .i64)) (.int .i64)) []], [1000]⟩
end Go.Abs.Label
end

section
/- Conditions and their equations, printed by a program. -/
open Go.Proofs
set_option maxRecDepth 100000
set_option linter.unusedVariables false
namespace Go.Abs.Label
def vc72 (l : List (List (List Int × Int))) (k : AVal → List Cont → Prop) : Prop :=
  Go.Abs.Loop (σ := ((List (List ((List Int) × Int))) × (Int × ((List (List ((List Int) × Int))) × (Int × (Int × Unit)))))) (fun K2 x2 =>
    br ((decide (x2.2.2.2.2.1 < x2.2.2.2.1)))
     (∃ h4 : (((0 : Int) ≤ x2.2.2.2.2.1) ∧ ((Int.toNat x2.2.2.2.2.1) < (List.length x2.2.2.1))),
     (Go.Abs.fitsK Go.IntKind.i64 (x2.2.1 + (((List.length (x2.2.2.1[(Int.toNat x2.2.2.2.2.1)]'h4.2)) : Nat) : Int))) ∧
     br ((decide ((x2.2.1 + (((List.length (x2.2.2.1[(Int.toNat x2.2.2.2.2.1)]'h4.2)) : Nat) : Int)) < (0 : Int))))
      (False)
      ((Go.Abs.fitsK Go.IntKind.i64 (x2.2.2.2.2.1 + (1 : Int))) ∧
      (K2 (x2.1, ((x2.2.1 + (((List.length (x2.2.2.1[(Int.toNat x2.2.2.2.2.1)]'h4.2)) : Nat) : Int)), (x2.2.2.1, (x2.2.2.2.1, ((x2.2.2.2.2.1 + (1 : Int)), ()))))))))
     ((((0 : Int) ≤ x2.2.1) ∧ (x2.2.1 ≤ (1000000 : Int))) ∧
     Go.Abs.Loop (σ := ((List (List ((List Int) × Int))) × (Int × (Int × ((List ((List Int) × Int)) × Unit))))) (fun K4 x4 =>
       br ((decide (x4.2.2.1 < x4.2.1)))
        (∃ h6 : (((0 : Int) ≤ x4.2.2.1) ∧ ((Int.toNat x4.2.2.1) < (List.length x4.1))),
        (((List.length x4.2.2.2.1) + (List.length (x4.1[(Int.toNat x4.2.2.1)]'h6.2))) ≤ Go.Abs.big) ∧
        (Go.Abs.fitsK Go.IntKind.i64 (x4.2.2.1 + (1 : Int))) ∧
        (K4 (x4.1, (x4.2.1, ((x4.2.2.1 + (1 : Int)), ((x4.2.2.2.1 ++ (x4.1[(Int.toNat x4.2.2.1)]'h6.2)), ()))))))
        ((k (Go.Abs.AVal.imm (Go.Abs.Ty.pair (Go.Abs.Ty.slice (Go.Abs.Ty.int Go.IntKind.i64)) (Go.Abs.Ty.int Go.IntKind.i64)) x4.2.2.2.1 Bool.false) []))) ((x2.1, ((((List.length x2.1) : Nat) : Int), ((0 : Int), (([] : List ((List Int) × Int)), ()))))))) ((l, ((0 : Int), (l, ((((List.length l) : Nat) : Int), ((0 : Int), ()))))))
theorem eq72 (l : List (List (List Int × Int))) (k : AVal → List Cont → Prop) : awpF (envOf [(90, cGrow)]) Tryz.prog kt 72 true Tryz.f72 (v72.args (l, ())) (v72.conts (l, ())) k = vc72 l k := by kernel_rfl
theorem tx72 : (Tryz.f72.body.map Code.textsOk).getD true = true := by kernel_rfl

end Go.Abs.Label
end

section
/- The label's functions keep their contracts: rules of several lists, one after the other (slices.Grow, slices.Concat). -/
open Go.Proofs
set_option maxRecDepth 100000
set_option linter.unusedVariables false
namespace Go.Abs.Label
open Go.Shelf
abbrev tRu : Ty := .pair (.slice (.int .i64)) (.int .i64)

theorem grow_spec {n : Int} (h1 : 0 ≤ n) (h2 : n ≤ 1000000) {k : AVal → List Cont → Prop} (hk : k (.reg 0 false) [.sl tRu []]) : ASpec Tryz.prog 90 [.nils tRu, .int .i64 n] [] k := by
  intro F K H w vs hok hargs hm hfr
  obtain ⟨v0, vs', rfl, hr0, hargs'⟩ := hargs.inv
  obtain ⟨v1, vs'', rfl, hr1, hargs''⟩ := hargs'.inv
  obtain rfl : vs'' = [] := RepL.nil_iff.1 hargs''
  clear hargs hargs' hargs''
  simp only [Rep] at hr0 hr1
  subst hr1; subst hr0
  have en : n = ((n.toNat : Nat) : Int) := by omega
  rcases Nat.eq_zero_or_pos n.toNat with h0 | hpos
  · have := Any8.slices_Grow_room Tryz.layGrow none 0 0 0 w (Nat.le_refl _) (by omega) (by omega) (by omega)
    rw [en, h0]
    refine Calls.mono this ?_
    rintro e w' ⟨rfl, rfl⟩
    obtain ⟨H', q1, q2, q3, q4⟩ := nil_region (M := []) (n := 0) (ty := tRu) hm (fun r _ => hfr r (Nat.zero_le _))
    have q5 : MRel F K H' w' (newM (fun _ => none) 0 [Cont.sl tRu []]) := by
      have e : newM (fun _ => none) 0 [Cont.sl tRu []] = mget [(0, Cont.sl tRu [], Flag.own)] := by
        funext r
        show upd (fun _ => none) 0 _ r = _
        unfold upd mget
        split <;> split <;> first | rfl | omega
      rw [e]
      exact q2
    exact ⟨_, .reg 0 false, [.sl tRu []], K, H', rfl, hk, .refl K, q4, q5, fun r hr => q3 r hr, hok, .refl _ _, .refl _ _, Nat.zero_le _, fun r hr => absurd hr (Nat.not_lt_zero _)⟩
  obtain ⟨i0, hi0, hz0, hs0, hb0, hzc⟩ : ∃ i, Tryz.prog.info? (Tryz.layGrow_ren.t 25) = some i ∧ i.zero = some (.agg #[.slice none 0 0, .int .i64 0]) ∧ i.size = 2 ∧ i.bytes = 32 ∧ True := ⟨Tryz.t58, by kernel_rfl, by kernel_rfl, by kernel_rfl, by kernel_rfl, trivial⟩
  have := Any8.slices_Grow_grow Tryz.layGrow i0 _ hi0 hz0 (by omega) none 0 0 n.toNat [] w (Nat.le_refl _) (by omega) (by rw [hb0]; omega) (by omega) (by simp) (fun _ => rfl) (fun a _ j v hj => by simp at hj)
  rw [← en] at this
  refine Calls.mono this ?_
  rintro e w' ⟨rfl, rfl⟩
  have hG := grownCap_ge w (0 + n.toNat) 0 (Tryz.layGrow_ren.t 25)
  have hM := grownCap_le_maxLen w (0 + n.toNat) 0 (Tryz.layGrow_ren.t 25) (by unfold maxLen; omega)
  unfold maxLen at hM
  generalize grownCap w (0 + n.toNat) 0 (Tryz.layGrow_ren.t 25) = G at hG hM ⊢
  have hokd : WOk F K w.drew := ⟨hok.knows, hok.lt, hok.inv, hok.apart⟩
  have hmd : MRel F K H w.drew (fun _ => none) := mrel_nil
  have hA := after_alloc hokd hmd (nx := 0) (hfr 0 (Nat.le_refl _)) (([] : List Value).toArray ++ Builtin.zeroCells (Value.agg #[.slice none 0 0, .int .i64 0]).cells (0 + n.toNat - 0) ++ Builtin.zeroCells (Value.agg #[.slice none 0 0, .int .i64 0]).cells (G - (0 + n.toNat))) (Tryz.layGrow_ren.t 25)
    (.sl tRu []) ⟨some w.heap.size, 2, 0, G⟩ rfl (by
      refine ⟨rfl, rfl, ⟨Nat.zero_le _, by show G ≤ _; omega⟩, .inr ⟨w.heap.size, _, _, (0, 0), rfl, alloc_new w.drew _, ?_, fun i hi => by simp at hi⟩⟩
      show G * 2 ≤ _
      simp only [Array.size_append, size_zeroCells, Value.cells]
      simp; omega)
    (.reg 0 false) (.slice (some ⟨w.heap.size, 0, none⟩) 0 G) (by simp only [Rep]; exact ⟨_, upd_same _ _ _, rfl, by simp⟩) []
  obtain ⟨a1, a2, a3, a4, a5, a6, a7, a8⟩ := hA
  refine ⟨_, .reg 0 false, [.sl tRu []], K, _, rfl, hk, .refl K, a4, a5, fun r hr => ?_, a6, ?_, .refl _ _, Nat.zero_le _, fun r hr => absurd hr (Nat.not_lt_zero _)⟩
  · have hr : 1 ≤ r := hr
    rw [upd_ne _ _ _ _ (by omega)]
    exact hfr r (Nat.zero_le _)
  · exact Kept.trans (b := w.drew) ⟨rfl, rfl, rfl, Nat.le_refl _, fun _ _ => rfl, Nat.le_succ _⟩ a7

theorem grow_kept : ∀ us cs k, cGrow.run us cs k → ASpec Tryz.prog 90 us cs k := by
  rintro us cs k ⟨h1, h2⟩
  have h1 : growPre us cs := h1
  unfold growPre at h1
  split at h1
  · exact grow_spec h1.1 h1.2 h2
  · exact h1.elim
theorem g90 {l : List (FuncId × Contract)} (hG : Good Tryz.prog (envOf l)) : Good Tryz.prog (envOf ((90, cGrow) :: l)) := by
  obtain ⟨c, hc⟩ := Option.isSome_iff_exists.1 (show Tryz.f90.body.isSome = true by kernel_rfl)
  exact good_cons hG Tryz.func90 hc (by kernel_rfl) grow_kept

def sumLen (l : List (List (List Int × Int))) : Nat := l.foldl (fun n x => n + x.length) 0
theorem sumLen_take {l : List (List (List Int × Int))} {i : Nat} (h : i < l.length) : sumLen (l.take (i + 1)) = sumLen (l.take i) + l[i].length := by
  unfold sumLen
  rw [List.take_succ_eq_append_getElem h, List.foldl_append]; rfl
theorem sumLen_le {l : List (List (List Int × Int))} (h : ∀ y ∈ l, y.length ≤ 1000) : ∀ i, i ≤ l.length → sumLen (l.take i) ≤ i * 1000
  | 0, _ => by simp [sumLen]
  | i + 1, hi => by
    have := sumLen_le h i (by omega)
    have h2 := h _ (List.getElem_mem (show i < l.length by omega))
    rw [sumLen_take (by omega)]; omega
theorem flatten_take {l : List (List (List Int × Int))} {i : Nat} (h : i < l.length) : (l.take (i + 1)).flatten = (l.take i).flatten ++ l[i] := by
  rw [List.take_succ_eq_append_getElem h, List.flatten_append]; simp
theorem flatten_len : ∀ (l : List (List (List Int × Int))) (i : Nat), i ≤ l.length → ((l.take i).flatten).length = sumLen (l.take i)
  | l, 0, _ => by simp [sumLen]
  | l, i + 1, h => by rw [flatten_take (by omega), sumLen_take (by omega), List.length_append, flatten_len l i (by omega)]

theorem k72 (hG : Good Tryz.prog (envOf [(90, cGrow)])) : v72.Kept Tryz.prog 72 := by
  rintro ⟨l, ⟨⟩⟩ hpre k hk
  change List (List (List Int × Int)) at l
  refine aspec hmix hG Tryz.func72 tx72 (Eq.mpr (eq72 l k) ?_)
  replace hk : k (.imm tRu (List.flatten l) false) [] := hk
  unfold vc72
  obtain ⟨h1, h2⟩ := hpre
  have h1 : l.length ≤ 100 := h1
  have h2 : ∀ y ∈ l, y.length ≤ 1000 := h2
  refine Loop.upto (fun i => (l, ((sumLen (l.take i) : Nat) : Int), l, ((l.length : Nat) : Int), (i : Int), ())) (fun i => True) l.length rfl trivial ?_ ?_
  · intro i K hi hp hK
    dsimp only
    rw [br_decide]
    refine ⟨fun _ => ?_, fun h => absurd hi (by omega)⟩
    try simp only [Int.toNat_natCast]
    have hK := hK trivial
    have hs := sumLen_take hi
    have hle := sumLen_le h2 (i + 1) (by omega)
    rw [hs] at hK hle
    refine ⟨⟨by omega, by omega⟩, fits64 (by omega) (by omega), ?_⟩
    rw [br_decide]
    exact ⟨fun h => absurd h (by omega), fun _ => ⟨fits64 (by omega) (by omega), hK⟩⟩
  · intro K hp
    dsimp only
    rw [br_decide]
    refine ⟨fun h => absurd h (by omega), fun _ => ?_⟩
    rw [List.take_length]
    have hle := sumLen_le h2 l.length (Nat.le_refl _)
    rw [List.take_length] at hle
    refine ⟨⟨by omega, by omega⟩, ?_⟩
    refine Loop.upto (fun i => (l, ((l.length : Nat) : Int), (i : Int), (l.take i).flatten, ())) (fun i => True) l.length rfl trivial ?_ ?_
    · intro j K_j hj hp_j hK_j
      dsimp only
      rw [br_decide]
      refine ⟨fun _ => ?_, fun h => absurd hj (by omega)⟩
      try simp only [Int.toNat_natCast]
      have hK := hK_j trivial
      have hfl := flatten_len l j (by omega)
      have hs := sumLen_take hj
      have hle := sumLen_le h2 (j + 1) (by omega)
      rw [hs] at hle
      rw [flatten_take hj] at hK
      exact ⟨⟨by omega, by omega⟩, by rw [hfl]; simp only [big]; omega, fits64 (by omega) (by omega), hK⟩
    · intro K_j hp_j
      dsimp only
      rw [br_decide]
      refine ⟨fun h => absurd h (by omega), fun _ => ?_⟩
      rw [List.take_length]
      exact hk
end Go.Abs.Label
end

section
/- What the label's functions compute: the examples of the chapter. -/
namespace Go.Abs.Label
def fiveR : List (List Int × Int) := [([0, 1], 2), ([2], 3), ([3, 4], -1), ([0], 4), ([5], 1)]
def sixR : List (List Int × Int) := fiveR ++ [([0, 5], 3)]
end Go.Abs.Label
end

section
/- The contracts of the label's functions: the examples; what follows, as the statements ask it. -/
namespace Go.Abs.Label
abbrev sRLt : VS := .imm (.pair (.slice (.int .i64)) (.int .i64)) true
def v76t : Var := ⟨.cs sI (.cs sRLt .nl), [], fun _ => True, fun x => one (.agg [rI x.1, .imm (.pair (.slice (.int .i64)) (.int .i64)) x.2.1 true])⟩
def guildPre : List AVal → List Cont → Prop
  | [.int .i64 _, .imm (.pair (.slice (.int .i64)) (.int .i64)) _ _], [] => True
  | _, _ => False
def guildRes : List AVal → List Cont → RTree
  | [.int .i64 n, .imm (.pair (.slice (.int .i64)) (.int .i64)) l f], [] => .leaf (.agg [rI n, .imm (.pair (.slice (.int .i64)) (.int .i64)) l f]) []
  | _, _ => .leaf .unk []
/-- A guild of rules: whether all room of their list is taken is known on. -/
def cGuild : Contract := ⟨guildPre, guildRes, []⟩
def v37 : Var := ⟨.nl, [], fun _ => True, fun _ => one (.agg [rI 6, .imm (.pair (.slice (.int .i64)) (.int .i64)) fiveR true])⟩
def v38 : Var := ⟨.nl, [], fun _ => True, fun _ => one (.agg [rI 6, .imm (.pair (.slice (.int .i64)) (.int .i64)) sixR false])⟩
def v31 : Var := ⟨.cs sG (.cs sL .nl), [], fun x => Gd x.1 x.2.1 ∧ isList x.2.2.1 x.1 = true, fun x => one (.tup [rI (fromI x.1 x.2.1 (bitsI x.2.2.1)), rBo (banI x.1 x.2.1 (bitsI x.2.2.1)), rBo true])⟩
def v10 : Var := ⟨.nl, [], fun _ => True, fun _ => one (rBo true)⟩
end Go.Abs.Label
end

section
/- Conditions and their equations, printed by a program. -/
open Go.Proofs
set_option maxRecDepth 100000
set_option linter.unusedVariables false
namespace Go.Abs.Label
def vc76t (w : Int) (rs : List (List Int × Int)) (k : AVal → List Cont → Prop) : Prop :=
  (k (Go.Abs.AVal.agg ((Go.Abs.AVal.int Go.IntKind.i64 w) :: ((Go.Abs.AVal.imm (Go.Abs.Ty.pair (Go.Abs.Ty.slice (Go.Abs.Ty.int Go.IntKind.i64)) (Go.Abs.Ty.int Go.IntKind.i64)) rs Bool.true) :: []))) [])
theorem eq76t (w : Int) (rs : List (List Int × Int)) (k : AVal → List Cont → Prop) : awpF (envOf []) Tryz.prog kt 76 false Tryz.f76 (v76t.args (w, rs, ())) (v76t.conts (w, rs, ())) k = vc76t w rs k := by kernel_rfl

def vc37  (k : AVal → List Cont → Prop) : Prop :=
  (Go.Abs.Label.v77.p ((2 : Int), (((0 : Int) :: ((1 : Int) :: ([] : List Int))), ()))) ∧
  (Go.Abs.Label.v77.p ((3 : Int), (((2 : Int) :: ([] : List Int)), ()))) ∧
  (Go.Abs.Label.v77.p ((-(1 : Int) : Int), (((3 : Int) :: ((4 : Int) :: ([] : List Int))), ()))) ∧
  (Go.Abs.Label.v77.p ((4 : Int), (((0 : Int) :: ([] : List Int)), ()))) ∧
  (Go.Abs.Label.v77.p ((1 : Int), (((5 : Int) :: ([] : List Int)), ()))) ∧
  True ∧
  (k (Go.Abs.AVal.agg ((Go.Abs.AVal.int Go.IntKind.i64 (6 : Int)) :: ((Go.Abs.AVal.imm (Go.Abs.Ty.pair (Go.Abs.Ty.slice (Go.Abs.Ty.int Go.IntKind.i64)) (Go.Abs.Ty.int Go.IntKind.i64)) ((((0 : Int) :: ((1 : Int) :: ([] : List Int))), (2 : Int)) :: ((((2 : Int) :: ([] : List Int)), (3 : Int)) :: ((((3 : Int) :: ((4 : Int) :: ([] : List Int))), (-(1 : Int) : Int)) :: ((((0 : Int) :: ([] : List Int)), (4 : Int)) :: ((((5 : Int) :: ([] : List Int)), (1 : Int)) :: ([] : List ((List Int) × Int))))))) Bool.true) :: []))) [])
theorem eq37  (k : AVal → List Cont → Prop) : awpF (envOf [(77, mkC [v77]), (76, cGuild)]) Tryz.prog kt 37 false Tryz.f37 (v37.args ()) (v37.conts ()) k = vc37  k := by kernel_rfl
theorem tx37 : (Tryz.f37.body.map Code.textsOk).getD true = true := by kernel_rfl

def vc38  (k : AVal → List Cont → Prop) : Prop :=
  (Go.Abs.Label.v37.p ()) ∧
  (Go.Abs.Label.v77.p ((3 : Int), (((0 : Int) :: ((5 : Int) :: ([] : List Int))), ()))) ∧
  (((List.length Go.Abs.Label.fiveR) + (List.length ((((0 : Int) :: ((5 : Int) :: ([] : List Int))), (3 : Int)) :: ([] : List ((List Int) × Int))))) ≤ Go.Abs.big) ∧
  ((0 : Nat) < (List.length ((((0 : Int) :: ((5 : Int) :: ([] : List Int))), (3 : Int)) :: ([] : List ((List Int) × Int))))) ∧
  True ∧
  (k (Go.Abs.AVal.agg ((Go.Abs.AVal.int Go.IntKind.i64 (6 : Int)) :: ((Go.Abs.AVal.imm (Go.Abs.Ty.pair (Go.Abs.Ty.slice (Go.Abs.Ty.int Go.IntKind.i64)) (Go.Abs.Ty.int Go.IntKind.i64)) (Go.Abs.Label.fiveR ++ ((((0 : Int) :: ((5 : Int) :: ([] : List Int))), (3 : Int)) :: ([] : List ((List Int) × Int)))) Bool.false) :: []))) [])
theorem eq38  (k : AVal → List Cont → Prop) : awpF (envOf [(37, mkC [v37]), (77, mkC [v77]), (76, cGuild)]) Tryz.prog kt 38 false Tryz.f38 (v38.args ()) (v38.conts ()) k = vc38  k := by kernel_rfl
theorem tx38 : (Tryz.f38.body.map Code.textsOk).getD true = true := by kernel_rfl

def vc31 (w : Int) (rs : List (List Int × Int)) (l : List Int) (k : AVal → List Cont → Prop) : Prop :=
  (Go.Abs.Label.v11.p (w, (rs, (l, ())))) ∧
  (Go.Abs.Label.v13.p (w, (rs, (l, ())))) ∧
  br ((((Go.Abs.Label.labelErr w rs l) != (0 : Int)) == Bool.false))
   (br ((((Go.Abs.Label.labelErr w rs l) != (0 : Int)) == Bool.false))
    ((Go.Abs.Label.v56.p ((Go.Abs.Label.folL w rs l), (w, ()))) ∧
    br ((Bool.not (Go.Abs.Label.isList (Go.Abs.Label.folL w rs l) w)))
     ((k (Go.Abs.AVal.tup ((Go.Abs.AVal.int Go.IntKind.i64 (0 : Int)) :: ((Go.Abs.AVal.bool Bool.false) :: ((Go.Abs.AVal.bool Bool.false) :: [])))) []))
     ((Go.Abs.Label.v47.p ((Go.Abs.Label.folL w rs l), ())) ∧
     (Go.Abs.Label.v47.p (l, ())) ∧
     (k (Go.Abs.AVal.tup ((Go.Abs.AVal.int Go.IntKind.i64 (Go.Abs.Label.bitsI (Go.Abs.Label.folL w rs l))) :: ((Go.Abs.AVal.bool (Go.Abs.Label.banL w rs l)) :: ((Go.Abs.AVal.bool ((Go.Abs.bitsA Go.BinOp.and Go.IntKind.i64 (Go.Abs.Label.bitsI (Go.Abs.Label.folL w rs l)) (Go.Abs.Label.bitsI l)) == (Go.Abs.Label.bitsI l))) :: [])))) [])))
    ((k (Go.Abs.AVal.tup ((Go.Abs.AVal.int Go.IntKind.i64 (0 : Int)) :: ((Go.Abs.AVal.bool Bool.false) :: ((Go.Abs.AVal.bool Bool.false) :: [])))) [])))
   ((k (Go.Abs.AVal.tup ((Go.Abs.AVal.int Go.IntKind.i64 (0 : Int)) :: ((Go.Abs.AVal.bool Bool.false) :: ((Go.Abs.AVal.bool Bool.false) :: [])))) []))
theorem eq31 (w : Int) (rs : List (List Int × Int)) (l : List Int) (k : AVal → List Cont → Prop) : awpF (envOf [(11, mkC [v11]), (13, mkC [v13]), (56, mkC [v56]), (47, mkC [v47])]) Tryz.prog kt 31 false Tryz.f31 (v31.args (w, rs, l, ())) (v31.conts (w, rs, l, ())) k = vc31 w rs l k := by kernel_rfl
theorem tx31 : (Tryz.f31.body.map Code.textsOk).getD true = true := by kernel_rfl

def vc10  (k : AVal → List Cont → Prop) : Prop :=
  (Go.Abs.Label.v37.p ()) ∧
  (Go.Abs.Label.v38.p ()) ∧
  (Go.Abs.Label.v39.p (((0 : Int) :: ((5 : Int) :: ([] : List Int))), ())) ∧
  (Go.Abs.Label.v11.p ((6 : Int), (Go.Abs.Label.fiveR, (((0 : Int) :: ((5 : Int) :: ([] : List Int))), ())))) ∧
  (Go.Abs.Label.v39.p (((1 : Int) :: ((0 : Int) :: ([] : List Int))), ())) ∧
  (Go.Abs.Label.v11.p ((6 : Int), (Go.Abs.Label.fiveR, (((1 : Int) :: ((0 : Int) :: ([] : List Int))), ())))) ∧
  (Go.Abs.Label.v39.p (((0 : Int) :: ((1 : Int) :: ([] : List Int))), ())) ∧
  (Go.Abs.Label.v13.p ((6 : Int), (Go.Abs.Label.fiveR, (((0 : Int) :: ((1 : Int) :: ([] : List Int))), ())))) ∧
  (Go.Abs.Label.v39.p (((0 : Int) :: ([] : List Int)), ())) ∧
  (Go.Abs.Label.v13.p ((6 : Int), (Go.Abs.Label.fiveR, (((0 : Int) :: ([] : List Int)), ())))) ∧
  (Go.Abs.Label.v39.p (((0 : Int) :: ((5 : Int) :: ([] : List Int))), ())) ∧
  (Go.Abs.Label.v39.p (((4 : Int) :: ((0 : Int) :: ((1 : Int) :: ([] : List Int)))), ())) ∧
  (Go.Abs.Label.v33.p ((6 : Int), (Go.Abs.Label.fiveR, (((0 : Int) :: ((5 : Int) :: ([] : List Int))), ((3 : Int), (((4 : Int) :: ((0 : Int) :: ((1 : Int) :: ([] : List Int)))), ())))))) ∧
  (Go.Abs.Label.v39.p (((0 : Int) :: ((5 : Int) :: ([] : List Int))), ())) ∧
  (Go.Abs.Label.v39.p (((0 : Int) :: ((1 : Int) :: ([] : List Int))), ())) ∧
  (Go.Abs.Label.v33.p ((6 : Int), (Go.Abs.Label.fiveR, (((0 : Int) :: ((5 : Int) :: ([] : List Int))), ((3 : Int), (((0 : Int) :: ((1 : Int) :: ([] : List Int))), ())))))) ∧
  (Go.Abs.Label.v39.p (((0 : Int) :: ((5 : Int) :: ([] : List Int))), ())) ∧
  (Go.Abs.Label.v39.p (((4 : Int) :: ((0 : Int) :: ([] : List Int))), ())) ∧
  (Go.Abs.Label.v33.p ((6 : Int), (Go.Abs.Label.fiveR, (((0 : Int) :: ((5 : Int) :: ([] : List Int))), ((3 : Int), (((4 : Int) :: ((0 : Int) :: ([] : List Int))), ())))))) ∧
  (Go.Abs.Label.v39.p (((0 : Int) :: ((5 : Int) :: ([] : List Int))), ())) ∧
  (Go.Abs.Label.v39.p (((4 : Int) :: ((0 : Int) :: ((1 : Int) :: ((3 : Int) :: ((2 : Int) :: ([] : List Int)))))), ())) ∧
  (Go.Abs.Label.v33.p ((6 : Int), (Go.Abs.Label.fiveR, (((0 : Int) :: ((5 : Int) :: ([] : List Int))), ((-(1 : Int) : Int), (((4 : Int) :: ((0 : Int) :: ((1 : Int) :: ((3 : Int) :: ((2 : Int) :: ([] : List Int)))))), ())))))) ∧
  (Go.Abs.Label.v39.p (((0 : Int) :: ([] : List Int)), ())) ∧
  (Go.Abs.Label.v33.p ((6 : Int), (Go.Abs.Label.fiveR, (((0 : Int) :: ([] : List Int)), ((6 : Int), (([] : List Int), ())))))) ∧
  (Go.Abs.Label.v39.p (((0 : Int) :: ((5 : Int) :: ([] : List Int))), ())) ∧
  (Go.Abs.Label.v32.p ((6 : Int), (Go.Abs.Label.fiveR, (((0 : Int) :: ((5 : Int) :: ([] : List Int))), ((3 : Int), ()))))) ∧
  (Go.Abs.Label.v39.p (((0 : Int) :: ([] : List Int)), ())) ∧
  (Go.Abs.Label.v32.p ((6 : Int), (Go.Abs.Label.fiveR, (((0 : Int) :: ([] : List Int)), ((-(1 : Int) : Int), ()))))) ∧
  (Go.Abs.Label.v39.p (((0 : Int) :: ((1 : Int) :: ((2 : Int) :: ((3 : Int) :: ((4 : Int) :: ((5 : Int) :: ([] : List Int))))))), ())) ∧
  (Go.Abs.Label.v18.p ((6 : Int), (Go.Abs.Label.fiveR, (((0 : Int) :: ((1 : Int) :: ((2 : Int) :: ((3 : Int) :: ((4 : Int) :: ((5 : Int) :: ([] : List Int))))))), ((3 : Int), ()))))) ∧
  (Go.Abs.Label.v39.p (((0 : Int) :: ((1 : Int) :: ((2 : Int) :: ((3 : Int) :: ((4 : Int) :: ((5 : Int) :: ([] : List Int))))))), ())) ∧
  (Go.Abs.Label.v20.p ((6 : Int), (Go.Abs.Label.fiveR, (((0 : Int) :: ((1 : Int) :: ((2 : Int) :: ((3 : Int) :: ((4 : Int) :: ((5 : Int) :: ([] : List Int))))))), ())))) ∧
  (Go.Abs.Label.v39.p (((2 : Int) :: ((3 : Int) :: ((4 : Int) :: ([] : List Int)))), ())) ∧
  (Go.Abs.Label.v23.p ((6 : Int), (Go.Abs.Label.fiveR, (((2 : Int) :: ((3 : Int) :: ((4 : Int) :: ([] : List Int)))), ())))) ∧
  (Go.Abs.Label.v25.p ((6 : Int), (Go.Abs.Label.fiveR, ()))) ∧
  (Go.Abs.Label.v27.p ((6 : Int), (Go.Abs.Label.sixR, ((5 : Int), ())))) ∧
  (Go.Abs.Label.v27.p ((6 : Int), (Go.Abs.Label.fiveR, ((0 : Int), ())))) ∧
  (Go.Abs.Label.v27.p ((6 : Int), (Go.Abs.Label.fiveR, ((9 : Int), ())))) ∧
  (Go.Abs.Label.v39.p (((0 : Int) :: ((1 : Int) :: ((2 : Int) :: ((3 : Int) :: ((4 : Int) :: ((5 : Int) :: ([] : List Int))))))), ())) ∧
  (Go.Abs.Label.v17.p ((Go.Abs.Label.folL (6 : Int) Go.Abs.Label.fiveR ((0 : Int) :: ((5 : Int) :: ([] : List Int)))), (((0 : Int) :: ((1 : Int) :: ((2 : Int) :: ((3 : Int) :: ((4 : Int) :: ((5 : Int) :: ([] : List Int))))))), ()))) ∧
  (Go.Abs.Label.v39.p (((0 : Int) :: ((5 : Int) :: ([] : List Int))), ())) ∧
  (Go.Abs.Label.v40.p ((6 : Int), (Go.Abs.Label.fiveR, (((0 : Int) :: ((5 : Int) :: ([] : List Int))), ((3 : Int), ((Go.Abs.Label.stepsL (6 : Int) Go.Abs.Label.fiveR ((0 : Int) :: ((5 : Int) :: ([] : List Int))) (3 : Int)), ())))))) ∧
  (Go.Abs.Label.v39.p (((0 : Int) :: ((1 : Int) :: ([] : List Int))), ())) ∧
  (Go.Abs.Label.v39.p (((0 : Int) :: ((5 : Int) :: ([] : List Int))), ())) ∧
  (Go.Abs.Label.v39.p (((2 : Int) :: ([] : List Int)), ())) ∧
  (Go.Abs.Label.v39.p (((3 : Int) :: ([] : List Int)), ())) ∧
  (Go.Abs.Label.v41.p ((((0 : Int) :: ((1 : Int) :: ([] : List Int))) :: (((0 : Int) :: ((5 : Int) :: ([] : List Int))) :: (((2 : Int) :: ([] : List Int)) :: (((3 : Int) :: ([] : List Int)) :: ([] : List (List Int)))))), ())) ∧
  (Go.Abs.Label.v22.p ((Go.Abs.Label.reaL (6 : Int) Go.Abs.Label.fiveR ((0 : Int) :: ((1 : Int) :: ((2 : Int) :: ((3 : Int) :: ((4 : Int) :: ((5 : Int) :: ([] : List Int))))))) (3 : Int)), ((((0 : Int) :: ((1 : Int) :: ([] : List Int))) :: (((0 : Int) :: ((5 : Int) :: ([] : List Int))) :: (((2 : Int) :: ([] : List Int)) :: (((3 : Int) :: ([] : List Int)) :: ([] : List (List Int)))))), ()))) ∧
  br (((Go.Abs.Label.eqLL (Go.Abs.Label.reaL (6 : Int) Go.Abs.Label.fiveR ((0 : Int) :: ((1 : Int) :: ((2 : Int) :: ((3 : Int) :: ((4 : Int) :: ((5 : Int) :: ([] : List Int))))))) (3 : Int)) (((0 : Int) :: ((1 : Int) :: ([] : List Int))) :: (((0 : Int) :: ((5 : Int) :: ([] : List Int))) :: (((2 : Int) :: ([] : List Int)) :: (((3 : Int) :: ([] : List Int)) :: ([] : List (List Int))))))) == Bool.true))
   ((Go.Abs.Label.v39.p (((0 : Int) :: ((5 : Int) :: ([] : List Int))), ())) ∧
   (Go.Abs.Label.v41.p ((((0 : Int) :: ((5 : Int) :: ([] : List Int))) :: ([] : List (List Int))), ())) ∧
   (Go.Abs.Label.v22.p ((Go.Abs.Label.keyL (6 : Int) Go.Abs.Label.fiveR ((0 : Int) :: ((1 : Int) :: ((2 : Int) :: ((3 : Int) :: ((4 : Int) :: ((5 : Int) :: ([] : List Int)))))))), ((((0 : Int) :: ((5 : Int) :: ([] : List Int))) :: ([] : List (List Int))), ()))) ∧
   (Go.Abs.Label.v39.p (((4 : Int) :: ([] : List Int)), ())) ∧
   (Go.Abs.Label.v17.p ((Go.Abs.Label.takeL (6 : Int) Go.Abs.Label.fiveR ((2 : Int) :: ((3 : Int) :: ((4 : Int) :: ([] : List Int))))), (((4 : Int) :: ([] : List Int)), ()))) ∧
   (k (Go.Abs.AVal.bool (Bool.not (Go.Abs.Label.idleB (6 : Int) Go.Abs.Label.fiveR (0 : Int)))) []))
   ((k (Go.Abs.AVal.bool Bool.false) []))
theorem eq10  (k : AVal → List Cont → Prop) : awpF (envOf [(37, mkC [v37]), (38, mkC [v38]), (39, mkC [v39]), (11, mkC [v11]), (13, mkC [v13]), (33, mkC [v33]), (32, mkC [v32]), (18, mkC [v18]), (20, mkC [v20]), (23, mkC [v23]), (25, mkC [v25]), (27, mkC [v27]), (17, mkC [v17]), (40, mkC [v40]), (41, mkC [v41]), (22, mkC [v22])]) Tryz.prog kt 10 false Tryz.f10 (v10.args ()) (v10.conts ()) k = vc10  k := by kernel_rfl
theorem tx10 : (Tryz.f10.body.map Code.textsOk).getD true = true := by kernel_rfl

end Go.Abs.Label
end

section
/- The label's functions keep their contracts: the examples; what follows, as the statements ask it. -/
open Go.Proofs
set_option maxRecDepth 100000
set_option linter.unusedVariables false
namespace Go.Abs.Label

theorem k76t (hG : Good Tryz.prog (envOf [])) : v76t.Kept Tryz.prog 76 := by
  rintro ⟨w, rs, ⟨⟩⟩ hpre k hk
  change Int at w
  change List (List Int × Int) at rs
  refine aspec hmix hG Tryz.func76 tx76 (Eq.mpr (eq76t w rs k) ?_)
  replace hk : k (.agg [rI w, .imm tRu rs true]) [] := hk
  unfold vc76t
  exact hk

theorem guild_kept : ∀ us cs k, cGuild.run us cs k → ASpec Tryz.prog 76 us cs k := by
  rintro us cs k ⟨h1, h2⟩
  have h1 : guildPre us cs := h1
  unfold guildPre at h1
  split at h1
  · rename_i n l f _
    cases f with
    | false => exact k76 good_nil (n, l, ()) trivial k h2
    | true => exact k76t good_nil (n, l, ()) trivial k h2
  · exact h1.elim
theorem g76 {l : List (FuncId × Contract)} (hG : Good Tryz.prog (envOf l)) : Good Tryz.prog (envOf ((76, cGuild) :: l)) := by
  obtain ⟨c, hc⟩ := Option.isSome_iff_exists.1 (show Tryz.f76.body.isSome = true by kernel_rfl)
  exact good_cons hG Tryz.func76 hc (by kernel_rfl) guild_kept

theorem k37 (hG : Good Tryz.prog (envOf [(77, mkC [v77]), (76, cGuild)])) : v37.Kept Tryz.prog 37 := by
  rintro ⟨⟩ hpre k hk
  refine aspec hmix hG Tryz.func37 tx37 (Eq.mpr (eq37  k) ?_)
  replace hk : k (.agg [rI 6, .imm tRu fiveR true]) [] := hk
  unfold vc37
  exact ⟨trivial, trivial, trivial, trivial, trivial, trivial, hk⟩

theorem k38 (hG : Good Tryz.prog (envOf [(37, mkC [v37]), (77, mkC [v77]), (76, cGuild)])) : v38.Kept Tryz.prog 38 := by
  rintro ⟨⟩ hpre k hk
  refine aspec hmix hG Tryz.func38 tx38 (Eq.mpr (eq38  k) ?_)
  replace hk : k (.agg [rI 6, .imm tRu sixR false]) [] := hk
  unfold vc38
  exact ⟨trivial, trivial, by decide, by decide, trivial, hk⟩

/-! ### lists of words, and sets -/
theorem bits_listed {b n : Nat} (h : b < 2 ^ n) : bitsL (listed b n) = b := by
  apply Nat.eq_of_testBit_eq
  intro i
  rw [Bool.eq_iff_iff, bitsL_test]
  constructor
  · rintro ⟨x, hx, rfl⟩
    obtain ⟨j, rfl, _, hj⟩ := listed_mem.1 hx
    exact hj
  · intro hi
    have : i < n := by
      rcases Nat.lt_or_ge i n with h' | h'
      · exact h'
      · rw [Nat.testBit_lt_two_pow (Nat.lt_of_lt_of_le h (Nat.pow_le_pow_right (by omega) h'))] at hi
        cases hi
    exact ⟨(i : Int), listed_mem.2 ⟨i, rfl, this, hi⟩, rfl⟩
theorem lt_of_tests {b n : Nat} (h : ∀ i, b.testBit i = true → i < n) : b < 2 ^ n := by
  refine Nat.lt_pow_two_of_testBit b (fun i hi => ?_)
  cases hb : b.testBit i with
  | false => rfl
  | true => have := h i hb; omega
theorem bits_ltw {l : List Int} {w : Int} (h : isList l w = true) : bitsL l < 2 ^ w.toNat := by
  refine lt_of_tests (fun i hi => ?_)
  obtain ⟨x, hx, rfl⟩ := (bitsL_test l i).1 hi
  have := (isList_spec.1 h).1 x hx
  omega
theorem listed_bits {l : List Int} {w : Int} (h : isList l w = true) : listed (bitsL l) w.toNat = l := by
  refine sorted_ext (· < ·) (fun a => Int.lt_irrefl a) (fun a b c h1 h2 => Int.lt_trans h1 h2) _ _ (listed_sorted _ _) (isList_spec.1 h).2 (fun x => ?_)
  rw [listed_mem]
  constructor
  · rintro ⟨i, rfl, h1, h2⟩
    obtain ⟨y, hy, e⟩ := (bitsL_test l i).1 h2
    have := (isList_spec.1 h).1 y hy
    have : y = (i : Int) := by omega
    rw [← this]; exact hy
  · intro hx
    have := (isList_spec.1 h).1 x hx
    exact ⟨x.toNat, by omega, by omega, (bitsL_test l _).2 ⟨x, hx, rfl⟩⟩
theorem isList_len {l : List Int} {w : Int} (h : isList l w = true) : l.length ≤ w.toNat := by
  rw [← listed_bits h]; exact listed_len _ _
theorem isList_listed (b : Nat) {w : Int} (h : 0 ≤ w) : isList (listed b w.toNat) w = true := by
  have := listed_isList b w.toNat
  rwa [Int.toNat_of_nonneg h] at this
theorem clo_ltw {w : Int} {rs : List (List Int × Int)} (hg : Gd w rs) {b : Nat} (hb : b < 2 ^ w.toNat) : clo w rs b < 2 ^ w.toNat := by
  refine lt_of_tests (fun i hi => ?_)
  have hr : thensIn w.toNat rs := fun r hr => by have := gd_w hg r hr; have := guild_spec hg; omega
  rcases iter_new hr (w.toNat + 1) b hi with h | h
  · rcases Nat.lt_or_ge i w.toNat with h' | h'
    · exact h'
    · rw [Nat.testBit_lt_two_pow (Nat.lt_of_lt_of_le hb (Nat.pow_le_pow_right (by omega) h'))] at h
      cases h
  · exact h
theorem fol_bits {w : Int} {rs : List (List Int × Int)} {l : List Int} (hg : Gd w rs) (hl : isList l w = true) : folL w rs l = listed (clo w rs (bitsL l)) w.toNat := by
  unfold folL
  have h0 : labelErr w rs l = 0 := by
    unfold labelErr
    rw [if_neg (by simpa using hg), if_pos hl]
  rw [if_pos h0]
  unfold listedI fromI bitsI
  rw [Int.toNat_natCast, Int.toNat_natCast]

theorem k31 (hG : Good Tryz.prog (envOf [(11, mkC [v11]), (13, mkC [v13]), (56, mkC [v56]), (47, mkC [v47])])) : v31.Kept Tryz.prog 31 := by
  rintro ⟨w, rs, l, ⟨⟩⟩ hpre k hk
  change Int at w
  change List (List Int × Int) at rs
  change List Int at l
  refine aspec hmix hG Tryz.func31 tx31 (Eq.mpr (eq31 w rs l k) ?_)
  replace hk : k (.tup [rI (fromI w rs (bitsI l)), rBo (banI w rs (bitsI l)), rBo true]) [] := hk
  unfold vc31
  obtain ⟨hg, hl⟩ := hpre
  have hg : Gd w rs := hg
  have hl : isList l w = true := hl
  obtain ⟨hw1, hw2, hrl, _⟩ := guild_spec hg
  have h0 : labelErr w rs l = 0 := by
    unfold labelErr
    rw [if_neg (by simpa using hg), if_pos hl]
  obtain ⟨_, hl9, hbB⟩ := label_isB h0
  have hlen := isList_len hl
  have hls : isList (folL w rs l) w = true := by rw [fol_bits hg hl]; exact isList_listed _ (by omega)
  have hfl := isList_len hls
  have hbw := bits_ltw hl
  have hcw := clo_ltw hg hbw
  have ef : bitsI (folL w rs l) = fromI w rs (bitsI l) := by
    rw [fol_bits hg hl]
    unfold bitsI fromI
    rw [bits_listed hcw, Int.toNat_natCast]
  have eb : banL w rs l = banI w rs (bitsI l) := by unfold banL; rw [h0]; rfl
  have efB := gd_isB hg hbB
  refine ⟨⟨gd_small hg, (show l.length ≤ 1000 by omega)⟩, ⟨gd_small hg, (show l.length ≤ 1000 by omega)⟩, ?_⟩
  rw [h0, br_bf]
  refine ⟨fun _ => ?_, fun h => by cases h⟩
  rw [br_bf]
  refine ⟨fun _ => ⟨⟨(show (folL w rs l).length ≤ 1152921504606846976 by omega), (show (0 : Int) ≤ w by omega), (show w ≤ 1000 by omega)⟩, ?_⟩, fun h => by cases h⟩
  rw [hls, br_not]

  refine ⟨fun h => (by cases h), fun _ => ⟨⟨(show (folL w rs l).length ≤ 1000 by omega), list_inL (by omega) hls⟩, ⟨(show l.length ≤ 1000 by omega), hl9⟩, ?_⟩⟩
  have e3 : (bitsA .and .i64 (fromI w rs (bitsI l)) (bitsI l) == bitsI l) = true := by
    rw [and_has efB hbB]
    unfold hasI fromI bitsI
    rw [Int.toNat_natCast, Int.toNat_natCast]
    exact clo_sub _ _ _
  rw [ef, eb, e3]
  exact hk

def shortB (x : List Int) : Bool := decide (x.length ≤ 1000)
theorem k10 (hG : Good Tryz.prog (envOf [(37, mkC [v37]), (38, mkC [v38]), (39, mkC [v39]), (11, mkC [v11]), (13, mkC [v13]), (33, mkC [v33]), (32, mkC [v32]), (18, mkC [v18]), (20, mkC [v20]), (23, mkC [v23]), (25, mkC [v25]), (27, mkC [v27]), (17, mkC [v17]), (40, mkC [v40]), (41, mkC [v41]), (22, mkC [v22])])) : v10.Kept Tryz.prog 10 := by
  rintro ⟨⟩ hpre k hk
  refine aspec hmix hG Tryz.func10 tx10 (Eq.mpr (eq10  k) ?_)
  replace hk : k (rBo true) [] := hk
  unfold vc10
  have l5 : fiveR.length = 5 := rfl
  have s5 : smallG fiveR := by decide
  have s6 : smallG sixR := by decide
  have hr : reaL 6 fiveR [0, 1, 2, 3, 4, 5] 3 = [[0, 1], [0, 5], [2], [3]] := by
    have e1 : wordErr 6 fiveR [0, 1, 2, 3, 4, 5] 3 = 0 := by decide
    have e2 : (minE (goodsR 6 fiveR (andI 0 3) (bitsI [0, 1, 2, 3, 4, 5]))).map (fun e => listI e.2.1) = [[0, 1], [2], [3], [0, 5]] := by decide
    unfold reaL listsE
    rw [if_pos e1, e2]
    exact (sortLL_unique (by decide) (by decide)).symm
  have hkey : keyL 6 fiveR [0, 1, 2, 3, 4, 5] = [[0, 5]] := by
    have e1 : labelErr 6 fiveR [0, 1, 2, 3, 4, 5] = 0 := by decide
    have e2 : (fewE (minE (goodsK 6 fiveR (fromI 6 fiveR (bitsI [0, 1, 2, 3, 4, 5])) (bitsI [0, 1, 2, 3, 4, 5])))).map (fun e => listI e.2.1) = [[0, 5]] := by decide
    unfold keyL listsE
    rw [if_pos e1, e2]
    exact (sortLL_unique (by decide) (by decide)).symm
  have hst : (stepsL 6 fiveR [0, 5] 3).length ≤ 12 := by
    unfold stepsL
    split
    · exact stepL_len _ _ _ _
    · exact Nat.zero_le _
  have hfo : folL 6 fiveR [0, 5] = [0, 1, 2, 3, 4, 5] := by decide
  have hta : takeL 6 fiveR [2, 3, 4] = [4] := by decide
  have hid : idleB 6 fiveR 0 = false := by decide
  rw [hr, hkey, hfo, hta, hid]
  have p2 : ∀ l : List Int, l.length ≤ 12 → v11.p (6, fiveR, l, ()) := fun l h => ⟨s5, (show l.length ≤ 1000 by omega)⟩
  have p13 : ∀ l : List Int, l.length ≤ 12 → v13.p (6, fiveR, l, ()) := fun l h => ⟨s5, (show l.length ≤ 1000 by omega)⟩
  have p33 : ∀ (l : List Int) (x : Int) (s : List Int), l.length ≤ 12 → s.length ≤ 12 → v33.p (6, fiveR, l, x, s, ()) := fun l x s h h2 => ⟨s5, (show l.length ≤ 1000 by omega), (show s.length ≤ 1000 by omega)⟩
  have p40 : ∀ (l : List Int) (x : Int) (s : List Int), l.length ≤ 12 → s.length ≤ 12 → v40.p (6, fiveR, l, x, s, ()) := fun l x s h h2 => ⟨s5, (show l.length ≤ 1000 by omega), (show s.length ≤ 1000 by omega)⟩
  have p32 : ∀ (l : List Int) (x : Int), l.length ≤ 12 → v32.p (6, fiveR, l, x, ()) := fun l x h => ⟨s5, (show l.length ≤ 1000 by omega)⟩
  have p18 : ∀ (l : List Int) (x : Int), l.length ≤ 12 → v18.p (6, fiveR, l, x, ()) := fun l x h => ⟨s5, (show l.length ≤ 1000 by omega)⟩
  have p20 : ∀ (l : List Int), l.length ≤ 12 → v20.p (6, fiveR, l, ()) := fun l h => ⟨s5, (show l.length ≤ 1000 by omega)⟩
  have p23 : ∀ (l : List Int), l.length ≤ 12 → v23.p (6, fiveR, l, ()) := fun l h => ⟨s5, (show l.length ≤ 1000 by omega)⟩
  have p17 : ∀ (l m : List Int), l.length ≤ 12 → m.length ≤ 12 → v17.p (l, m, ()) := fun l m h h2 => ⟨(show l.length ≤ 1152921504606846976 by omega), (show m.length ≤ 1152921504606846976 by omega)⟩
  have p22 : ∀ (l m : List (List Int)), l.length ≤ 12 → m.length ≤ 12 → l.all shortB = true → m.all shortB = true → v22.p (l, m, ()) := fun l m h h2 h3 h4 => ⟨(show l.length ≤ 2000 by omega), (show m.length ≤ 2000 by omega), fun x hx => of_decide_eq_true (List.all_eq_true.1 h3 x hx), fun x hx => of_decide_eq_true (List.all_eq_true.1 h4 x hx)⟩
  refine ⟨trivial, trivial, trivial, p2 _ (by decide), trivial, p2 _ (by decide), trivial, p13 _ (by decide), trivial, p13 _ (by decide), trivial, trivial, p33 _ _ _ (by decide) (by decide), trivial, trivial, p33 _ _ _ (by decide) (by decide), trivial, trivial, p33 _ _ _ (by decide) (by decide), trivial, trivial, p33 _ _ _ (by decide) (by decide), trivial, p33 _ _ _ (by decide) (by decide), trivial, p32 _ _ (by decide), trivial, p32 _ _ (by decide), trivial, p18 _ _ (by decide), trivial, p20 _ (by decide), trivial, p23 _ (by decide), s5, s6, s5, s5, trivial, p17 _ _ (by decide) (by decide), trivial, p40 _ _ _ (by decide) hst, trivial, trivial, trivial, trivial, trivial, p22 _ _ (by decide) (by decide) (by decide) (by decide), ?_⟩
  rw [br_bt]
  exact ⟨fun _ => ⟨trivial, trivial, p22 _ _ (by decide) (by decide) (by decide) (by decide), trivial, p17 _ _ (by decide) (by decide), hk⟩, fun h => absurd h (by decide)⟩
end Go.Abs.Label
end

section
/- The contracts of the label's statements. -/
namespace Go.Abs.Label
abbrev yes : RTree := one (rBo true)
abbrev is16 (n : Int) : Prop := 0 ≤ n ∧ n ≤ 65535
abbrev is8 (n : Int) : Prop := 0 ≤ n ∧ n ≤ 255
def v3 : Var := ⟨.cs sG (.cs sL .nl), [], fun _ => True, fun _ => yes⟩
def v4 : Var := ⟨.cs sG (.cs sL (.cs sI .nl)), [], fun _ => True, fun _ => yes⟩
def v5 : Var := ⟨.cs sG (.cs sL (.cs sI .nl)), [], fun _ => True, fun _ => yes⟩
def v6 : Var := ⟨.cs sG (.cs (.int .u16) (.cs (.int .u8) (.cs sL .nl))), [], fun x => is16 x.2.2.1 ∧ is8 x.2.2.2.1, fun _ => yes⟩
def v7 : Var := ⟨.cs sG (.cs (.int .u16) (.cs (.int .u16) .nl)), [], fun x => is16 x.2.2.1 ∧ is16 x.2.2.2.1, fun _ => yes⟩
end Go.Abs.Label
end

section
/- Conditions and their equations, printed by a program. -/
open Go.Proofs
set_option maxRecDepth 100000
set_option linter.unusedVariables false
namespace Go.Abs.Label
def vc3 (w : Int) (rs : List (List Int × Int)) (l : List Int) (k : AVal → List Cont → Prop) : Prop :=
  (Go.Abs.Label.v8.p (w, (rs, ()))) ∧
  br (((Go.Abs.Label.greatG rs) == Bool.false))
   ((Go.Abs.Label.v9.p (l, ())) ∧
   br ((Go.Abs.Label.longL l))
    ((Go.Abs.Label.v10.p ()) ∧
    (k (Go.Abs.AVal.bool Bool.true) []))
    ((Go.Abs.Label.v11.p (w, (rs, (l, ())))) ∧
    (Go.Abs.Label.v12.p (w, (rs, (l, ())))) ∧
    (Go.Abs.Label.v13.p (w, (rs, (l, ())))) ∧
    (Go.Abs.Label.v14.p (w, (rs, (l, ())))) ∧
    (Go.Abs.Label.v15.p (w, (rs, ()))) ∧
    (Go.Abs.Label.v16.p (w, (rs, ()))) ∧
    br ((((Go.Abs.Label.guildErr w rs) == (Go.Abs.Label.guildErr w rs)) == Bool.true))
     ((Go.Abs.Label.v17.p ((Go.Abs.Label.folL w rs l), ((Go.Abs.Label.folL w rs l), ()))) ∧
     br (((Go.Abs.Label.eqL (Go.Abs.Label.folL w rs l) (Go.Abs.Label.folL w rs l)) == Bool.true))
      (br ((((Go.Abs.Label.labelErr w rs l) == (Go.Abs.Label.labelErr w rs l)) == Bool.true))
       (br ((((Go.Abs.Label.banL w rs l) == (Go.Abs.Label.banL w rs l)) == Bool.true))
        (br ((((Go.Abs.Label.labelErr w rs l) == (Go.Abs.Label.labelErr w rs l)) == Bool.true))
         ((Go.Abs.Label.v10.p ()) ∧
         (k (Go.Abs.AVal.bool Bool.true) []))
         ((k (Go.Abs.AVal.bool Bool.false) [])))
        ((k (Go.Abs.AVal.bool Bool.false) [])))
       ((k (Go.Abs.AVal.bool Bool.false) [])))
      ((k (Go.Abs.AVal.bool Bool.false) [])))
     ((k (Go.Abs.AVal.bool Bool.false) []))))
   ((Go.Abs.Label.v10.p ()) ∧
   (k (Go.Abs.AVal.bool Bool.true) []))
theorem eq3 (w : Int) (rs : List (List Int × Int)) (l : List Int) (k : AVal → List Cont → Prop) : awpF (envOf [(8, mkC [v8]), (9, mkC [v9]), (10, mkC [v10]), (11, mkC [v11]), (12, mkC [v12]), (13, mkC [v13]), (14, mkC [v14]), (15, mkC [v15]), (16, mkC [v16]), (17, mkC [v17])]) Tryz.prog kt 3 false Tryz.f3 (v3.args (w, rs, l, ())) (v3.conts (w, rs, l, ())) k = vc3 w rs l k := by kernel_rfl
theorem tx3 : (Tryz.f3.body.map Code.textsOk).getD true = true := by kernel_rfl

def vc4 (w : Int) (rs : List (List Int × Int)) (l : List Int) (x : Int) (k : AVal → List Cont → Prop) : Prop :=
  (Go.Abs.Label.v8.p (w, (rs, ()))) ∧
  br (((Go.Abs.Label.greatG rs) == Bool.false))
   ((Go.Abs.Label.v9.p (l, ())) ∧
   br ((Go.Abs.Label.longL l))
    ((Go.Abs.Label.v10.p ()) ∧
    (k (Go.Abs.AVal.bool Bool.true) []))
    ((Go.Abs.Label.v18.p (w, (rs, (l, (x, ()))))) ∧
    (Go.Abs.Label.v19.p (w, (rs, (l, (x, ()))))) ∧
    (Go.Abs.Label.v20.p (w, (rs, (l, ())))) ∧
    (Go.Abs.Label.v21.p (w, (rs, (l, ())))) ∧
    (Go.Abs.Label.v22.p ((Go.Abs.Label.reaL w rs l x), ((Go.Abs.Label.reaL2 w rs l x), ()))) ∧
    br (((Go.Abs.Label.eqLL (Go.Abs.Label.reaL w rs l x) (Go.Abs.Label.reaL2 w rs l x)) == Bool.true))
     (br ((((Go.Abs.Label.wordErr w rs l x) == (Go.Abs.Label.wordErr w rs l x)) == Bool.true))
      ((Go.Abs.Label.v22.p ((Go.Abs.Label.keyL w rs l), ((Go.Abs.Label.keyL2 w rs l), ()))) ∧
      br (((Go.Abs.Label.eqLL (Go.Abs.Label.keyL w rs l) (Go.Abs.Label.keyL2 w rs l)) == Bool.true))
       (br ((((Go.Abs.Label.labelErr w rs l) == (Go.Abs.Label.labelErr w rs l)) == Bool.true))
        ((Go.Abs.Label.v10.p ()) ∧
        (k (Go.Abs.AVal.bool Bool.true) []))
        ((k (Go.Abs.AVal.bool Bool.false) [])))
       ((k (Go.Abs.AVal.bool Bool.false) [])))
      ((k (Go.Abs.AVal.bool Bool.false) [])))
     ((k (Go.Abs.AVal.bool Bool.false) []))))
   ((Go.Abs.Label.v10.p ()) ∧
   (k (Go.Abs.AVal.bool Bool.true) []))
theorem eq4 (w : Int) (rs : List (List Int × Int)) (l : List Int) (x : Int) (k : AVal → List Cont → Prop) : awpF (envOf [(8, mkC [v8]), (9, mkC [v9]), (10, mkC [v10]), (18, mkC [v18]), (19, mkC [v19]), (20, mkC [v20]), (21, mkC [v21]), (22, mkC [v22])]) Tryz.prog kt 4 false Tryz.f4 (v4.args (w, rs, l, x, ())) (v4.conts (w, rs, l, x, ())) k = vc4 w rs l x k := by kernel_rfl
theorem tx4 : (Tryz.f4.body.map Code.textsOk).getD true = true := by kernel_rfl

def vc5 (w : Int) (rs : List (List Int × Int)) (l : List Int) (x : Int) (k : AVal → List Cont → Prop) : Prop :=
  (Go.Abs.Label.v8.p (w, (rs, ()))) ∧
  br (((Go.Abs.Label.greatG rs) == Bool.false))
   ((Go.Abs.Label.v9.p (l, ())) ∧
   br ((Go.Abs.Label.longL l))
    ((Go.Abs.Label.v10.p ()) ∧
    (k (Go.Abs.AVal.bool Bool.true) []))
    ((Go.Abs.Label.v23.p (w, (rs, (l, ())))) ∧
    (Go.Abs.Label.v24.p (w, (rs, (l, ())))) ∧
    (Go.Abs.Label.v25.p (w, (rs, ()))) ∧
    (Go.Abs.Label.v26.p (w, (rs, ()))) ∧
    (Go.Abs.Label.v27.p (w, (rs, (x, ())))) ∧
    (Go.Abs.Label.v28.p (w, (rs, (x, ())))) ∧
    (Go.Abs.Label.v17.p ((Go.Abs.Label.takeL w rs l), ((Go.Abs.Label.takeL2 w rs l), ()))) ∧
    br (((Go.Abs.Label.eqL (Go.Abs.Label.takeL w rs l) (Go.Abs.Label.takeL2 w rs l)) == Bool.true))
     (br ((((Go.Abs.Label.takeErr w rs l) == (Go.Abs.Label.takeErr w rs l)) == Bool.true))
      (br ((((Go.Abs.Label.closL w rs) == (Go.Abs.Label.closL w rs)) == Bool.true))
       (br ((((Go.Abs.Label.guildErr w rs) == (Go.Abs.Label.guildErr w rs)) == Bool.true))
        (br ((((Go.Abs.Label.idleB w rs x) == (Go.Abs.Label.idleB2 w rs x)) == Bool.true))
         (br ((((Go.Abs.Label.idleErr w rs x) == (Go.Abs.Label.idleErr w rs x)) == Bool.true))
          ((Go.Abs.Label.v10.p ()) ∧
          (k (Go.Abs.AVal.bool Bool.true) []))
          ((k (Go.Abs.AVal.bool Bool.false) [])))
         ((k (Go.Abs.AVal.bool Bool.false) [])))
        ((k (Go.Abs.AVal.bool Bool.false) [])))
       ((k (Go.Abs.AVal.bool Bool.false) [])))
      ((k (Go.Abs.AVal.bool Bool.false) [])))
     ((k (Go.Abs.AVal.bool Bool.false) []))))
   ((Go.Abs.Label.v10.p ()) ∧
   (k (Go.Abs.AVal.bool Bool.true) []))
theorem eq5 (w : Int) (rs : List (List Int × Int)) (l : List Int) (x : Int) (k : AVal → List Cont → Prop) : awpF (envOf [(8, mkC [v8]), (9, mkC [v9]), (10, mkC [v10]), (23, mkC [v23]), (24, mkC [v24]), (25, mkC [v25]), (26, mkC [v26]), (27, mkC [v27]), (28, mkC [v28]), (17, mkC [v17])]) Tryz.prog kt 5 false Tryz.f5 (v5.args (w, rs, l, x, ())) (v5.conts (w, rs, l, x, ())) k = vc5 w rs l x k := by kernel_rfl
theorem tx5 : (Tryz.f5.body.map Code.textsOk).getD true = true := by kernel_rfl

def vc6 (w : Int) (rs : List (List Int × Int)) (bits num : Int) (s : List Int) (k : AVal → List Cont → Prop) : Prop :=
  (Go.Abs.Label.v29.p (w, (rs, ()))) ∧
  br (((Bool.not (Go.Abs.Label.fine w rs)) == Bool.false))
   ((Go.Abs.Label.v9.p (s, ())) ∧
   br ((Go.Abs.Label.longL s))
    ((Go.Abs.Label.v10.p ()) ∧
    (k (Go.Abs.AVal.bool Bool.true) []))
    ((Go.Abs.Label.v30.p (w, (rs, (bits, ())))) ∧
    (Go.Abs.fitsK Go.IntKind.i64 num) ∧
    (Go.Abs.fitsK Go.IntKind.i64 (w + (1 : Int))) ∧
    (((0 : Int) ≤ num) ∧ ((0 : Int) < (w + (1 : Int)))) ∧
    (Go.Abs.fitsK Go.IntKind.i64 ((HMod.hMod num (w + (1 : Int))) - (1 : Int))) ∧
    (Go.Abs.Label.v31.p (w, (rs, ((Go.Abs.Label.listedI bits w), ())))) ∧
    (Go.Abs.Label.v32.p (w, (rs, ((Go.Abs.Label.listedI bits w), (((HMod.hMod num (w + (1 : Int))) - (1 : Int)), ()))))) ∧
    (Go.Abs.Label.v33.p (w, (rs, ((Go.Abs.Label.listedI bits w), (((HMod.hMod num (w + (1 : Int))) - (1 : Int)), (s, ())))))) ∧
    (Go.Abs.Label.v9.p ((Go.Abs.Label.stepsL w rs (Go.Abs.Label.listedI bits w) ((HMod.hMod num (w + (1 : Int))) - (1 : Int))), ())) ∧
    br ((Go.Abs.Label.longL (Go.Abs.Label.stepsL w rs (Go.Abs.Label.listedI bits w) ((HMod.hMod num (w + (1 : Int))) - (1 : Int)))))
     ((k (Go.Abs.AVal.bool Bool.false) []))
     (br (((decide (((HMod.hMod num (w + (1 : Int))) - (1 : Int)) < (0 : Int))) == Bool.true))
      (br (((Go.Abs.Label.banI w rs (Go.Abs.Label.bitsI (Go.Abs.Label.listedI bits w))) == Bool.false))
       (br (((decide (((HMod.hMod num (w + (1 : Int))) - (1 : Int)) ≥ (0 : Int))) == Bool.true))
        (((0 : Int) ≤ (ite (((HMod.hMod num (w + (1 : Int))) - (1 : Int)) > (0 : Int)) ((HMod.hMod num (w + (1 : Int))) - (1 : Int)) (0 : Int))) ∧
        br ((((Go.Abs.Label.chkS w rs (Go.Abs.Label.listedI bits w) ((HMod.hMod num (w + (1 : Int))) - (1 : Int)) s) == (0 : Int)) == Bool.true))
         (br ((Bool.not ((Go.Abs.bitsA Go.BinOp.and Go.IntKind.i64 (Go.Abs.shrA Go.IntKind.i64 (Go.Abs.Label.fromI w rs (Go.Abs.Label.bitsI (Go.Abs.Label.listedI bits w))) (ite (((HMod.hMod num (w + (1 : Int))) - (1 : Int)) > (0 : Int)) ((HMod.hMod num (w + (1 : Int))) - (1 : Int)) (0 : Int))) (1 : Int)) == (1 : Int))))
          ((k (Go.Abs.AVal.bool Bool.false) []))
          (br ((Bool.not ((Go.Abs.bitsA Go.BinOp.and Go.IntKind.i64 (Go.Abs.shrA Go.IntKind.i64 (Go.Abs.Label.fromI w rs (Go.Abs.Label.bitsI (Go.Abs.Label.listedI bits w))) (ite (((HMod.hMod num (w + (1 : Int))) - (1 : Int)) > (0 : Int)) ((HMod.hMod num (w + (1 : Int))) - (1 : Int)) (0 : Int))) (1 : Int)) == (1 : Int))))
           (br ((((Go.Abs.Label.stepErr w rs (Go.Abs.Label.listedI bits w) ((HMod.hMod num (w + (1 : Int))) - (1 : Int))) == (5 : Int)) == Bool.true))
            (br ((((((List.length (Go.Abs.Label.stepsL w rs (Go.Abs.Label.listedI bits w) ((HMod.hMod num (w + (1 : Int))) - (1 : Int)))) : Nat) : Int) == (0 : Int)) == Bool.true))
             ((Go.Abs.Label.v10.p ()) ∧
             (k (Go.Abs.AVal.bool Bool.true) []))
             ((k (Go.Abs.AVal.bool Bool.false) [])))
            ((k (Go.Abs.AVal.bool Bool.false) [])))
           (br ((((Go.Abs.Label.stepErr w rs (Go.Abs.Label.listedI bits w) ((HMod.hMod num (w + (1 : Int))) - (1 : Int))) == (0 : Int)) == Bool.true))
            ((Go.Abs.Label.v33.p (w, (rs, ((Go.Abs.Label.listedI bits w), (((HMod.hMod num (w + (1 : Int))) - (1 : Int)), ((Go.Abs.Label.stepsL w rs (Go.Abs.Label.listedI bits w) ((HMod.hMod num (w + (1 : Int))) - (1 : Int))), ())))))) ∧
            br ((((Go.Abs.Label.chkS w rs (Go.Abs.Label.listedI bits w) ((HMod.hMod num (w + (1 : Int))) - (1 : Int)) (Go.Abs.Label.stepsL w rs (Go.Abs.Label.listedI bits w) ((HMod.hMod num (w + (1 : Int))) - (1 : Int)))) == (0 : Int)) == Bool.true))
             ((Go.Abs.Label.v34.p (w, (rs, ((Go.Abs.Label.listedI bits w), (((HMod.hMod num (w + (1 : Int))) - (1 : Int)), ((Go.Abs.Label.stepsL w rs (Go.Abs.Label.listedI bits w) ((HMod.hMod num (w + (1 : Int))) - (1 : Int))), ())))))) ∧
             br (((Go.Abs.Label.needS w rs (Go.Abs.Label.listedI bits w) ((HMod.hMod num (w + (1 : Int))) - (1 : Int)) (Go.Abs.Label.stepsL w rs (Go.Abs.Label.listedI bits w) ((HMod.hMod num (w + (1 : Int))) - (1 : Int)))) == Bool.true))
              ((Go.Abs.Label.v10.p ()) ∧
              (k (Go.Abs.AVal.bool Bool.true) []))
              ((k (Go.Abs.AVal.bool Bool.false) [])))
             ((k (Go.Abs.AVal.bool Bool.false) [])))
            ((k (Go.Abs.AVal.bool Bool.false) [])))))
         (br ((Bool.not ((Go.Abs.bitsA Go.BinOp.and Go.IntKind.i64 (Go.Abs.shrA Go.IntKind.i64 (Go.Abs.Label.fromI w rs (Go.Abs.Label.bitsI (Go.Abs.Label.listedI bits w))) (ite (((HMod.hMod num (w + (1 : Int))) - (1 : Int)) > (0 : Int)) ((HMod.hMod num (w + (1 : Int))) - (1 : Int)) (0 : Int))) (1 : Int)) == (1 : Int))))
          (br ((((Go.Abs.Label.stepErr w rs (Go.Abs.Label.listedI bits w) ((HMod.hMod num (w + (1 : Int))) - (1 : Int))) == (5 : Int)) == Bool.true))
           (br ((((((List.length (Go.Abs.Label.stepsL w rs (Go.Abs.Label.listedI bits w) ((HMod.hMod num (w + (1 : Int))) - (1 : Int)))) : Nat) : Int) == (0 : Int)) == Bool.true))
            ((Go.Abs.Label.v10.p ()) ∧
            (k (Go.Abs.AVal.bool Bool.true) []))
            ((k (Go.Abs.AVal.bool Bool.false) [])))
           ((k (Go.Abs.AVal.bool Bool.false) [])))
          (br ((((Go.Abs.Label.stepErr w rs (Go.Abs.Label.listedI bits w) ((HMod.hMod num (w + (1 : Int))) - (1 : Int))) == (0 : Int)) == Bool.true))
           ((Go.Abs.Label.v33.p (w, (rs, ((Go.Abs.Label.listedI bits w), (((HMod.hMod num (w + (1 : Int))) - (1 : Int)), ((Go.Abs.Label.stepsL w rs (Go.Abs.Label.listedI bits w) ((HMod.hMod num (w + (1 : Int))) - (1 : Int))), ())))))) ∧
           br ((((Go.Abs.Label.chkS w rs (Go.Abs.Label.listedI bits w) ((HMod.hMod num (w + (1 : Int))) - (1 : Int)) (Go.Abs.Label.stepsL w rs (Go.Abs.Label.listedI bits w) ((HMod.hMod num (w + (1 : Int))) - (1 : Int)))) == (0 : Int)) == Bool.true))
            ((Go.Abs.Label.v34.p (w, (rs, ((Go.Abs.Label.listedI bits w), (((HMod.hMod num (w + (1 : Int))) - (1 : Int)), ((Go.Abs.Label.stepsL w rs (Go.Abs.Label.listedI bits w) ((HMod.hMod num (w + (1 : Int))) - (1 : Int))), ())))))) ∧
            br (((Go.Abs.Label.needS w rs (Go.Abs.Label.listedI bits w) ((HMod.hMod num (w + (1 : Int))) - (1 : Int)) (Go.Abs.Label.stepsL w rs (Go.Abs.Label.listedI bits w) ((HMod.hMod num (w + (1 : Int))) - (1 : Int)))) == Bool.true))
             ((Go.Abs.Label.v10.p ()) ∧
             (k (Go.Abs.AVal.bool Bool.true) []))
             ((k (Go.Abs.AVal.bool Bool.false) [])))
            ((k (Go.Abs.AVal.bool Bool.false) [])))
           ((k (Go.Abs.AVal.bool Bool.false) [])))))
        (br ((((Go.Abs.Label.chkS w rs (Go.Abs.Label.listedI bits w) ((HMod.hMod num (w + (1 : Int))) - (1 : Int)) s) == (0 : Int)) == Bool.true))
         ((k (Go.Abs.AVal.bool Bool.false) []))
         (br ((((Go.Abs.Label.stepErr w rs (Go.Abs.Label.listedI bits w) ((HMod.hMod num (w + (1 : Int))) - (1 : Int))) == (5 : Int)) == Bool.true))
          (br ((((((List.length (Go.Abs.Label.stepsL w rs (Go.Abs.Label.listedI bits w) ((HMod.hMod num (w + (1 : Int))) - (1 : Int)))) : Nat) : Int) == (0 : Int)) == Bool.true))
           ((Go.Abs.Label.v10.p ()) ∧
           (k (Go.Abs.AVal.bool Bool.true) []))
           ((k (Go.Abs.AVal.bool Bool.false) [])))
          ((k (Go.Abs.AVal.bool Bool.false) [])))))
       (br ((((Go.Abs.Label.chkS w rs (Go.Abs.Label.listedI bits w) ((HMod.hMod num (w + (1 : Int))) - (1 : Int)) s) == (0 : Int)) == Bool.true))
        (br ((((Go.Abs.Label.stepErr w rs (Go.Abs.Label.listedI bits w) ((HMod.hMod num (w + (1 : Int))) - (1 : Int))) == (0 : Int)) == Bool.true))
         ((Go.Abs.Label.v33.p (w, (rs, ((Go.Abs.Label.listedI bits w), (((HMod.hMod num (w + (1 : Int))) - (1 : Int)), ((Go.Abs.Label.stepsL w rs (Go.Abs.Label.listedI bits w) ((HMod.hMod num (w + (1 : Int))) - (1 : Int))), ())))))) ∧
         br ((((Go.Abs.Label.chkS w rs (Go.Abs.Label.listedI bits w) ((HMod.hMod num (w + (1 : Int))) - (1 : Int)) (Go.Abs.Label.stepsL w rs (Go.Abs.Label.listedI bits w) ((HMod.hMod num (w + (1 : Int))) - (1 : Int)))) == (0 : Int)) == Bool.true))
          ((Go.Abs.Label.v34.p (w, (rs, ((Go.Abs.Label.listedI bits w), (((HMod.hMod num (w + (1 : Int))) - (1 : Int)), ((Go.Abs.Label.stepsL w rs (Go.Abs.Label.listedI bits w) ((HMod.hMod num (w + (1 : Int))) - (1 : Int))), ())))))) ∧
          br (((Go.Abs.Label.needS w rs (Go.Abs.Label.listedI bits w) ((HMod.hMod num (w + (1 : Int))) - (1 : Int)) (Go.Abs.Label.stepsL w rs (Go.Abs.Label.listedI bits w) ((HMod.hMod num (w + (1 : Int))) - (1 : Int)))) == Bool.true))
           ((Go.Abs.Label.v10.p ()) ∧
           (k (Go.Abs.AVal.bool Bool.true) []))
           ((k (Go.Abs.AVal.bool Bool.false) [])))
          ((k (Go.Abs.AVal.bool Bool.false) [])))
         ((k (Go.Abs.AVal.bool Bool.false) [])))
        (br ((((Go.Abs.Label.stepErr w rs (Go.Abs.Label.listedI bits w) ((HMod.hMod num (w + (1 : Int))) - (1 : Int))) == (0 : Int)) == Bool.true))
         ((Go.Abs.Label.v33.p (w, (rs, ((Go.Abs.Label.listedI bits w), (((HMod.hMod num (w + (1 : Int))) - (1 : Int)), ((Go.Abs.Label.stepsL w rs (Go.Abs.Label.listedI bits w) ((HMod.hMod num (w + (1 : Int))) - (1 : Int))), ())))))) ∧
         br ((((Go.Abs.Label.chkS w rs (Go.Abs.Label.listedI bits w) ((HMod.hMod num (w + (1 : Int))) - (1 : Int)) (Go.Abs.Label.stepsL w rs (Go.Abs.Label.listedI bits w) ((HMod.hMod num (w + (1 : Int))) - (1 : Int)))) == (0 : Int)) == Bool.true))
          ((Go.Abs.Label.v34.p (w, (rs, ((Go.Abs.Label.listedI bits w), (((HMod.hMod num (w + (1 : Int))) - (1 : Int)), ((Go.Abs.Label.stepsL w rs (Go.Abs.Label.listedI bits w) ((HMod.hMod num (w + (1 : Int))) - (1 : Int))), ())))))) ∧
          br (((Go.Abs.Label.needS w rs (Go.Abs.Label.listedI bits w) ((HMod.hMod num (w + (1 : Int))) - (1 : Int)) (Go.Abs.Label.stepsL w rs (Go.Abs.Label.listedI bits w) ((HMod.hMod num (w + (1 : Int))) - (1 : Int)))) == Bool.true))
           ((Go.Abs.Label.v10.p ()) ∧
           (k (Go.Abs.AVal.bool Bool.true) []))
           ((k (Go.Abs.AVal.bool Bool.false) [])))
          ((k (Go.Abs.AVal.bool Bool.false) [])))
         ((k (Go.Abs.AVal.bool Bool.false) [])))))
      (br (((decide (((HMod.hMod num (w + (1 : Int))) - (1 : Int)) ≥ (0 : Int))) == Bool.true))
       (((0 : Int) ≤ (ite (((HMod.hMod num (w + (1 : Int))) - (1 : Int)) > (0 : Int)) ((HMod.hMod num (w + (1 : Int))) - (1 : Int)) (0 : Int))) ∧
       br ((((Go.Abs.Label.chkS w rs (Go.Abs.Label.listedI bits w) ((HMod.hMod num (w + (1 : Int))) - (1 : Int)) s) == (0 : Int)) == Bool.true))
        (br ((Bool.not ((Go.Abs.bitsA Go.BinOp.and Go.IntKind.i64 (Go.Abs.shrA Go.IntKind.i64 (Go.Abs.Label.fromI w rs (Go.Abs.Label.bitsI (Go.Abs.Label.listedI bits w))) (ite (((HMod.hMod num (w + (1 : Int))) - (1 : Int)) > (0 : Int)) ((HMod.hMod num (w + (1 : Int))) - (1 : Int)) (0 : Int))) (1 : Int)) == (1 : Int))))
         ((k (Go.Abs.AVal.bool Bool.false) []))
         (br ((Bool.not ((Go.Abs.bitsA Go.BinOp.and Go.IntKind.i64 (Go.Abs.shrA Go.IntKind.i64 (Go.Abs.Label.fromI w rs (Go.Abs.Label.bitsI (Go.Abs.Label.listedI bits w))) (ite (((HMod.hMod num (w + (1 : Int))) - (1 : Int)) > (0 : Int)) ((HMod.hMod num (w + (1 : Int))) - (1 : Int)) (0 : Int))) (1 : Int)) == (1 : Int))))
          (br ((((Go.Abs.Label.stepErr w rs (Go.Abs.Label.listedI bits w) ((HMod.hMod num (w + (1 : Int))) - (1 : Int))) == (5 : Int)) == Bool.true))
           (br ((((((List.length (Go.Abs.Label.stepsL w rs (Go.Abs.Label.listedI bits w) ((HMod.hMod num (w + (1 : Int))) - (1 : Int)))) : Nat) : Int) == (0 : Int)) == Bool.true))
            ((Go.Abs.Label.v10.p ()) ∧
            (k (Go.Abs.AVal.bool Bool.true) []))
            ((k (Go.Abs.AVal.bool Bool.false) [])))
           ((k (Go.Abs.AVal.bool Bool.false) [])))
          (br ((((Go.Abs.Label.stepErr w rs (Go.Abs.Label.listedI bits w) ((HMod.hMod num (w + (1 : Int))) - (1 : Int))) == (0 : Int)) == Bool.true))
           ((Go.Abs.Label.v33.p (w, (rs, ((Go.Abs.Label.listedI bits w), (((HMod.hMod num (w + (1 : Int))) - (1 : Int)), ((Go.Abs.Label.stepsL w rs (Go.Abs.Label.listedI bits w) ((HMod.hMod num (w + (1 : Int))) - (1 : Int))), ())))))) ∧
           br ((((Go.Abs.Label.chkS w rs (Go.Abs.Label.listedI bits w) ((HMod.hMod num (w + (1 : Int))) - (1 : Int)) (Go.Abs.Label.stepsL w rs (Go.Abs.Label.listedI bits w) ((HMod.hMod num (w + (1 : Int))) - (1 : Int)))) == (0 : Int)) == Bool.true))
            ((Go.Abs.Label.v34.p (w, (rs, ((Go.Abs.Label.listedI bits w), (((HMod.hMod num (w + (1 : Int))) - (1 : Int)), ((Go.Abs.Label.stepsL w rs (Go.Abs.Label.listedI bits w) ((HMod.hMod num (w + (1 : Int))) - (1 : Int))), ())))))) ∧
            br (((Go.Abs.Label.needS w rs (Go.Abs.Label.listedI bits w) ((HMod.hMod num (w + (1 : Int))) - (1 : Int)) (Go.Abs.Label.stepsL w rs (Go.Abs.Label.listedI bits w) ((HMod.hMod num (w + (1 : Int))) - (1 : Int)))) == Bool.true))
             ((Go.Abs.Label.v10.p ()) ∧
             (k (Go.Abs.AVal.bool Bool.true) []))
             ((k (Go.Abs.AVal.bool Bool.false) [])))
            ((k (Go.Abs.AVal.bool Bool.false) [])))
           ((k (Go.Abs.AVal.bool Bool.false) [])))))
        (br ((Bool.not ((Go.Abs.bitsA Go.BinOp.and Go.IntKind.i64 (Go.Abs.shrA Go.IntKind.i64 (Go.Abs.Label.fromI w rs (Go.Abs.Label.bitsI (Go.Abs.Label.listedI bits w))) (ite (((HMod.hMod num (w + (1 : Int))) - (1 : Int)) > (0 : Int)) ((HMod.hMod num (w + (1 : Int))) - (1 : Int)) (0 : Int))) (1 : Int)) == (1 : Int))))
         (br ((((Go.Abs.Label.stepErr w rs (Go.Abs.Label.listedI bits w) ((HMod.hMod num (w + (1 : Int))) - (1 : Int))) == (5 : Int)) == Bool.true))
          (br ((((((List.length (Go.Abs.Label.stepsL w rs (Go.Abs.Label.listedI bits w) ((HMod.hMod num (w + (1 : Int))) - (1 : Int)))) : Nat) : Int) == (0 : Int)) == Bool.true))
           ((Go.Abs.Label.v10.p ()) ∧
           (k (Go.Abs.AVal.bool Bool.true) []))
           ((k (Go.Abs.AVal.bool Bool.false) [])))
          ((k (Go.Abs.AVal.bool Bool.false) [])))
         (br ((((Go.Abs.Label.stepErr w rs (Go.Abs.Label.listedI bits w) ((HMod.hMod num (w + (1 : Int))) - (1 : Int))) == (0 : Int)) == Bool.true))
          ((Go.Abs.Label.v33.p (w, (rs, ((Go.Abs.Label.listedI bits w), (((HMod.hMod num (w + (1 : Int))) - (1 : Int)), ((Go.Abs.Label.stepsL w rs (Go.Abs.Label.listedI bits w) ((HMod.hMod num (w + (1 : Int))) - (1 : Int))), ())))))) ∧
          br ((((Go.Abs.Label.chkS w rs (Go.Abs.Label.listedI bits w) ((HMod.hMod num (w + (1 : Int))) - (1 : Int)) (Go.Abs.Label.stepsL w rs (Go.Abs.Label.listedI bits w) ((HMod.hMod num (w + (1 : Int))) - (1 : Int)))) == (0 : Int)) == Bool.true))
           ((Go.Abs.Label.v34.p (w, (rs, ((Go.Abs.Label.listedI bits w), (((HMod.hMod num (w + (1 : Int))) - (1 : Int)), ((Go.Abs.Label.stepsL w rs (Go.Abs.Label.listedI bits w) ((HMod.hMod num (w + (1 : Int))) - (1 : Int))), ())))))) ∧
           br (((Go.Abs.Label.needS w rs (Go.Abs.Label.listedI bits w) ((HMod.hMod num (w + (1 : Int))) - (1 : Int)) (Go.Abs.Label.stepsL w rs (Go.Abs.Label.listedI bits w) ((HMod.hMod num (w + (1 : Int))) - (1 : Int)))) == Bool.true))
            ((Go.Abs.Label.v10.p ()) ∧
            (k (Go.Abs.AVal.bool Bool.true) []))
            ((k (Go.Abs.AVal.bool Bool.false) [])))
           ((k (Go.Abs.AVal.bool Bool.false) [])))
          ((k (Go.Abs.AVal.bool Bool.false) [])))))
       (br ((((Go.Abs.Label.chkS w rs (Go.Abs.Label.listedI bits w) ((HMod.hMod num (w + (1 : Int))) - (1 : Int)) s) == (0 : Int)) == Bool.true))
        ((k (Go.Abs.AVal.bool Bool.false) []))
        (br ((((Go.Abs.Label.stepErr w rs (Go.Abs.Label.listedI bits w) ((HMod.hMod num (w + (1 : Int))) - (1 : Int))) == (5 : Int)) == Bool.true))
         (br ((((((List.length (Go.Abs.Label.stepsL w rs (Go.Abs.Label.listedI bits w) ((HMod.hMod num (w + (1 : Int))) - (1 : Int)))) : Nat) : Int) == (0 : Int)) == Bool.true))
          ((Go.Abs.Label.v10.p ()) ∧
          (k (Go.Abs.AVal.bool Bool.true) []))
          ((k (Go.Abs.AVal.bool Bool.false) [])))
         ((k (Go.Abs.AVal.bool Bool.false) []))))))))
   ((Go.Abs.Label.v10.p ()) ∧
   (k (Go.Abs.AVal.bool Bool.true) []))
theorem eq6 (w : Int) (rs : List (List Int × Int)) (bits num : Int) (s : List Int) (k : AVal → List Cont → Prop) : awpF (envOf [(29, mkC [v29]), (9, mkC [v9]), (10, mkC [v10]), (30, mkC [v30]), (31, mkC [v31]), (32, mkC [v32]), (33, mkC [v33]), (34, mkC [v34])]) Tryz.prog kt 6 false Tryz.f6 (v6.args (w, rs, bits, num, s, ())) (v6.conts (w, rs, bits, num, s, ())) k = vc6 w rs bits num s k := by kernel_rfl
theorem tx6 : (Tryz.f6.body.map Code.textsOk).getD true = true := by kernel_rfl

def vc7 (w : Int) (rs : List (List Int × Int)) (a b : Int) (k : AVal → List Cont → Prop) : Prop :=
  (Go.Abs.Label.v29.p (w, (rs, ()))) ∧
  br ((Bool.not (Go.Abs.Label.fine w rs)))
   ((Go.Abs.Label.v10.p ()) ∧
   (k (Go.Abs.AVal.bool Bool.true) []))
   ((Go.Abs.Label.v30.p (w, (rs, (a, ())))) ∧
   (Go.Abs.Label.v31.p (w, (rs, ((Go.Abs.Label.listedI a w), ())))) ∧
   (Go.Abs.Label.v30.p (w, (rs, (b, ())))) ∧
   (Go.Abs.Label.v31.p (w, (rs, ((Go.Abs.Label.listedI b w), ())))) ∧
   (Go.Abs.Label.v35.p ((Go.Abs.Label.fromI w rs (Go.Abs.Label.bitsI (Go.Abs.Label.listedI a w))), (w, ()))) ∧
   (Go.Abs.Label.v31.p (w, (rs, ((Go.Abs.Label.listedI (Go.Abs.Label.fromI w rs (Go.Abs.Label.bitsI (Go.Abs.Label.listedI a w))) w), ())))) ∧
   (Go.Abs.Label.v35.p ((Go.Abs.bitsA Go.BinOp.and Go.IntKind.i64 (Go.Abs.Label.fromI w rs (Go.Abs.Label.bitsI (Go.Abs.Label.listedI a w))) (Go.Abs.Label.fromI w rs (Go.Abs.Label.bitsI (Go.Abs.Label.listedI b w)))), (w, ()))) ∧
   (Go.Abs.Label.v31.p (w, (rs, ((Go.Abs.Label.listedI (Go.Abs.bitsA Go.BinOp.and Go.IntKind.i64 (Go.Abs.Label.fromI w rs (Go.Abs.Label.bitsI (Go.Abs.Label.listedI a w))) (Go.Abs.Label.fromI w rs (Go.Abs.Label.bitsI (Go.Abs.Label.listedI b w)))) w), ())))) ∧
   (Go.Abs.Label.v25.p (w, (rs, ()))) ∧
   br ((((Go.Abs.Label.fromI w rs (Go.Abs.Label.bitsI (Go.Abs.Label.listedI (Go.Abs.Label.fromI w rs (Go.Abs.Label.bitsI (Go.Abs.Label.listedI a w))) w))) != (Go.Abs.Label.fromI w rs (Go.Abs.Label.bitsI (Go.Abs.Label.listedI a w)))) == Bool.false))
    (br (((Bool.not ((Go.Abs.Label.banI w rs (Go.Abs.Label.bitsI (Go.Abs.Label.listedI (Go.Abs.Label.fromI w rs (Go.Abs.Label.bitsI (Go.Abs.Label.listedI a w))) w))) == (Go.Abs.Label.banI w rs (Go.Abs.Label.bitsI (Go.Abs.Label.listedI a w))))) == Bool.false))
     (br ((((Go.Abs.Label.fromI w rs (Go.Abs.Label.bitsI (Go.Abs.Label.listedI (Go.Abs.bitsA Go.BinOp.and Go.IntKind.i64 (Go.Abs.Label.fromI w rs (Go.Abs.Label.bitsI (Go.Abs.Label.listedI a w))) (Go.Abs.Label.fromI w rs (Go.Abs.Label.bitsI (Go.Abs.Label.listedI b w)))) w))) != (Go.Abs.bitsA Go.BinOp.and Go.IntKind.i64 (Go.Abs.Label.fromI w rs (Go.Abs.Label.bitsI (Go.Abs.Label.listedI a w))) (Go.Abs.Label.fromI w rs (Go.Abs.Label.bitsI (Go.Abs.Label.listedI b w))))) == Bool.false))
      (br (((Go.Abs.Label.guildErr w rs) != (0 : Int)))
       ((k (Go.Abs.AVal.bool Bool.false) []))
       (Go.Abs.Loop (σ := (Int × (Int × (Int × (Int × ((List ((List Int) × Int)) × Unit)))))) (fun K5 x5 =>
         ((0 : Int) ≤ x5.2.2.2.1) ∧
         br ((decide (x5.2.2.1 < (Go.Abs.shlA Go.IntKind.i64 (1 : Int) x5.2.2.2.1))))
          ((Go.Abs.Label.v36.p (x5.2.2.2.1, (x5.2.2.2.2.1, (x5.2.2.1, ())))) ∧
          br ((Go.Abs.Label.clsI x5.2.2.2.1 x5.2.2.2.2.1 x5.2.2.1))
           ((Go.Abs.fitsK Go.IntKind.i64 (x5.2.1 + (1 : Int))) ∧
           (Go.Abs.fitsK Go.IntKind.i64 (x5.2.2.1 + (1 : Int))) ∧
           (K5 (x5.1, ((x5.2.1 + (1 : Int)), ((x5.2.2.1 + (1 : Int)), (x5.2.2.2.1, (x5.2.2.2.2.1, ())))))))
           ((Go.Abs.fitsK Go.IntKind.i64 (x5.2.2.1 + (1 : Int))) ∧
           (K5 (x5.1, (x5.2.1, ((x5.2.2.1 + (1 : Int)), (x5.2.2.2.1, (x5.2.2.2.2.1, ()))))))))
          (br (((x5.1 == x5.2.1) == Bool.true))
           ((Go.Abs.Label.v10.p ()) ∧
           (k (Go.Abs.AVal.bool Bool.true) []))
           ((k (Go.Abs.AVal.bool Bool.false) [])))) (((Go.Abs.Label.closL w rs), ((0 : Int), ((0 : Int), (w, (rs, ()))))))))
      ((k (Go.Abs.AVal.bool Bool.false) [])))
     ((k (Go.Abs.AVal.bool Bool.false) [])))
    ((k (Go.Abs.AVal.bool Bool.false) [])))
theorem eq7 (w : Int) (rs : List (List Int × Int)) (a b : Int) (k : AVal → List Cont → Prop) : awpF (envOf [(29, mkC [v29]), (10, mkC [v10]), (30, mkC [v30]), (31, mkC [v31]), (35, mkC [v35]), (25, mkC [v25]), (36, mkC [v36])]) Tryz.prog kt 7 false Tryz.f7 (v7.args (w, rs, a, b, ())) (v7.conts (w, rs, a, b, ())) k = vc7 w rs a b k := by kernel_rfl
theorem tx7 : (Tryz.f7.body.map Code.textsOk).getD true = true := by kernel_rfl

end Go.Abs.Label
end

section
/- The label's statements: which guilds are valid, what follows, what is banned. -/
open Go.Proofs
set_option maxRecDepth 100000
set_option linter.unusedVariables false
namespace Go.Abs.Label
theorem br_yes {b : Bool} {p q : Prop} (h : b = true) (hp : p) : br b p q := by subst h; exact hp
theorem br_no {b : Bool} {p q : Prop} (h : b = false) (hq : q) : br b p q := by subst h; exact hq
theorem eqbt (a : Int) : ((a == a) == true) = true := by simp
theorem eqBt (a : Bool) : ((a == a) == true) = true := by simp
theorem eqLt (a : List Int) : (eqL a a == true) = true := by simp [eqL]
theorem eqLLt (a : List (List Int)) : (eqLL a a == true) = true := by simp [eqLL]
theorem long_no {l : List Int} (h : longL l = false) : l.length ≤ 20 := by
  unfold longL at h
  have := of_decide_eq_false h
  omega
theorem fol_len (w : Int) (rs : List (List Int × Int)) (l : List Int) : (folL w rs l).length ≤ 10 := by
  unfold folL
  split
  · rename_i h
    have := fol_same h
    rw [← this]
    exact listI_len _
  · exact Nat.zero_le _

theorem k3 (hG : Good Tryz.prog (envOf [(8, mkC [v8]), (9, mkC [v9]), (10, mkC [v10]), (11, mkC [v11]), (12, mkC [v12]), (13, mkC [v13]), (14, mkC [v14]), (15, mkC [v15]), (16, mkC [v16]), (17, mkC [v17])])) : v3.Kept Tryz.prog 3 := by
  rintro ⟨w, rs, l, ⟨⟩⟩ hpre k hk
  change Int at w
  change List (List Int × Int) at rs
  change List Int at l
  refine aspec hmix hG Tryz.func3 tx3 (Eq.mpr (eq3 w rs l k) ?_)
  replace hk : k (rBo true) [] := hk
  unfold vc3
  refine ⟨trivial, ?_⟩
  rw [br_bf]
  refine ⟨fun hs => ⟨trivial, br_intro (fun _ => ⟨trivial, hk⟩) (fun h => ?_)⟩, fun _ => ⟨trivial, hk⟩⟩
  have hl := long_no h
  have hl2 : l.length ≤ 1000 := by omega
  have hf := fol_len w rs l
  have hf2 : (folL w rs l).length ≤ 1152921504606846976 := by omega
  exact ⟨⟨hs, hl2⟩, ⟨hs, hl2⟩, ⟨hs, hl2⟩, ⟨hs, hl2⟩, hs, hs, br_yes (eqbt _) ⟨⟨hf2, hf2⟩, br_yes (eqLt _) (br_yes (eqbt _) (br_yes (eqBt _) (br_yes (eqbt _) ⟨trivial, hk⟩)))⟩⟩
end Go.Abs.Label
end

section
/- Plain laws of labels: reasons, keys, what is taken, idle rules: two ways agree. -/
open Go.Proofs
set_option maxRecDepth 100000
set_option linter.unusedVariables false
namespace Go.Abs.Label

/-! ### what follows -/
theorem pow10 {w : Int} (h : w ≤ 10) : 2 ^ w.toNat ≤ 1024 := Nat.pow_le_pow_right (n := 2) (j := 10) (by omega) (by omega)
theorem clo_mono {w : Int} {rs : List (List Int × Int)} (hg : Gd w rs) {a b : Nat} (h : subB a b = true) : subB (clo w rs a) (clo w rs b) = true := by
  obtain ⟨h1, _⟩ := guild_spec hg
  exact clo_least (clo_closed (by omega) (gd_w hg) b) (sub_trans h (clo_sub w rs b))
theorem clo_clo {w : Int} {rs : List (List Int × Int)} (hg : Gd w rs) (a : Nat) : clo w rs (clo w rs a) = clo w rs a := by
  obtain ⟨h1, _⟩ := guild_spec hg
  exact sub_antisymm (clo_least (clo_closed (by omega) (gd_w hg) a) (le_refl_sub _)) (clo_sub _ _ _)
theorem clo_into {w : Int} {rs : List (List Int × Int)} (hg : Gd w rs) {a b : Nat} (h : subB a (clo w rs b) = true) : subB (clo w rs a) (clo w rs b) = true := by
  have := clo_mono hg h
  rwa [clo_clo hg] at this
theorem ban_iff {w : Int} {rs : List (List Int × Int)} {b : Nat} : banned w rs b = true ↔ ∃ r ∈ rs, r.2 < 0 ∧ subB (bitsL r.1) (clo w rs b) = true := by
  unfold banned
  rw [List.any_eq_true]
  simp only [banR, Bool.and_eq_true, decide_eq_true_eq]
theorem ban_mono {w : Int} {rs : List (List Int × Int)} (hg : Gd w rs) {a b : Nat} (h : subB a (clo w rs b) = true) (hb : banned w rs a = true) : banned w rs b = true := by
  obtain ⟨r, h1, h2, h3⟩ := ban_iff.1 hb
  exact ban_iff.2 ⟨r, h1, h2, sub_trans h3 (clo_into hg h)⟩
theorem sub_antisymm' {a b : Nat} (h : a ≠ b) (h1 : subB a b = true) : ∃ i, b.testBit i = true ∧ a.testBit i = false := by
  refine Classical.byContradiction fun hn => h (sub_antisymm h1 (sub_iff.2 fun i hi => ?_))
  cases ha : a.testBit i with
  | true => rfl
  | false => exact absurd ⟨i, hi, ha⟩ hn
theorem test_pow {w : Nat} {b i : Nat} (hb : b < 2 ^ w) (h : b.testBit i = true) : i < w := by
  rcases Nat.lt_or_ge i w with h' | h'
  · exact h'
  · rw [Nat.testBit_lt_two_pow (Nat.lt_of_lt_of_le hb (Nat.pow_le_pow_right (by omega) h'))] at h
    cases h
theorem without_one {i j : Nat} (hi : i < 1024) : (∀ k, (andNot i (2 ^ j)).testBit k = (i.testBit k && decide (k ≠ j))) ∧ subB (andNot i (2 ^ j)) i = true ∧ andNot i (2 ^ j) < 1024 := by
  have h : ∀ k, (andNot i (2 ^ j)).testBit k = (i.testBit k && decide (k ≠ j)) := by
    intro k
    rcases Nat.lt_or_ge k 10 with hk | hk
    · rw [notI_test hk, Nat.testBit_two_pow]
      by_cases e : j = k
      · subst e; simp
      · simp [e, Ne.symm e]
    · have h1 : i.testBit k = false := Nat.testBit_lt_two_pow (Nat.lt_of_lt_of_le hi (Nat.pow_le_pow_right (n := 2) (by omega) hk))
      have h2 : (andNot i (2 ^ j)).testBit k = false := Nat.testBit_lt_two_pow (Nat.lt_of_lt_of_le (notI_lt hi) (Nat.pow_le_pow_right (n := 2) (by omega) hk))
      rw [h1, h2]; rfl
  refine ⟨h, sub_iff.2 fun k hk => ?_, notI_lt hi⟩
  rw [h, Bool.and_eq_true] at hk
  exact hk.1

/-! ### the parts of a label, two ways -/
theorem parts_range {s W : Nat} (hs : s < 2 ^ W) (p : Nat → Bool) : (partsN s).filter p = (List.range (2 ^ W)).filter (fun i => subB i s && p i) := by
  have e : partsN s = (List.range (2 ^ W)).filter (fun i => subB i s) := by
    show (List.range (s + 1)).filter (fun p => subB p s) = _
    obtain ⟨d, hd⟩ : ∃ d, 2 ^ W = (s + 1) + d := ⟨2 ^ W - (s + 1), by omega⟩
    rw [hd, @List.range_add (s + 1) d, List.filter_append]
    have : (List.map (fun x => s + 1 + x) (List.range d)).filter (fun i => subB i s) = [] := by
      rw [List.filter_eq_nil_iff]
      intro x hx h
      obtain ⟨y, _, rfl⟩ := List.mem_map.1 hx
      have := sub_le h
      omega
    rw [this, List.append_nil]
  rw [e, List.filter_filter]
  exact List.filter_congr (fun x _ => by rw [Bool.and_comm])
theorem goods_range {s W : Nat} (hs : s < 2 ^ W) (good : Int → Bool) : goodsI good (s : Int) = ((List.range (2 ^ W)).filter (fun i => subB i s && good (i : Int))).map Int.ofNat := by
  unfold goodsI
  rw [Int.toNat_natCast, List.filter_map, parts_range hs]
  rfl
theorem min_keys (G : List Int) : (minE G).map (fun e => e.2.1) = G.filter (fun y => !G.any (properB y)) := by
  unfold minE
  rw [show (fun e : Nat × Int × Int => !G.any (properB e.2.1)) = (fun y => !G.any (properB y)) ∘ (fun e => e.2.1) from rfl, ← List.filter_map, ents_keys]
theorem listI_w {w : Int} (hw : 0 ≤ w ∧ w ≤ 10) {i : Nat} (hi : i < 2 ^ w.toNat) : listI (i : Int) = listed i w.toNat := by
  unfold listI
  rw [Int.toNat_natCast]
  refine listed_stop 10 (by omega) (fun j h1 h2 => ?_)
  exact Nat.testBit_lt_two_pow (Nat.lt_of_lt_of_le hi (Nat.pow_le_pow_right (by omega) h1))
theorem proper_nat {i j : Nat} : properB (i : Int) (j : Int) = true ↔ i ≠ j ∧ subB j i = true := by
  unfold properB hasI
  rw [Int.toNat_natCast, Int.toNat_natCast]
  simp only [Bool.and_eq_true, decide_eq_true_eq]
  constructor
  · rintro ⟨h1, h2⟩; exact ⟨fun e => h1 (by rw [e]), h2⟩
  · rintro ⟨h1, h2⟩; exact ⟨fun e => h1 (by omega), h2⟩
/-- Those that are good and have no part that is: of the numbers below. -/
theorem min_nat (G : List Nat) : ((G.map Int.ofNat).filter (fun y => !(G.map Int.ofNat).any (properB y))) = (G.filter (fun i => !G.any (fun j => decide (i ≠ j) && subB j i))).map Int.ofNat := by
  rw [List.filter_map]
  congr 1
  refine List.filter_congr (fun i hi => ?_)
  show (!(G.map Int.ofNat).any (properB (i : Int))) = _
  congr 1
  rw [List.any_map]
  congr 1
  funext j
  show properB (i : Int) (j : Int) = _
  rw [Bool.eq_iff_iff, proper_nat]
  simp

/-! ### reasons -/
theorem reason_nat (w : Int) (rs : List (List Int × Int)) (x : Int) (i : Nat) : reasonOk w rs (andI 0 x) (i : Int) = hasW w rs x i := by
  unfold reasonOk
  rw [has_one' _ (fromI_nat w rs i)]
  rfl
theorem has_mono {w : Int} {rs : List (List Int × Int)} (hg : Gd w rs) {x : Int} {i j : Nat} (h : subB j i = true) (hj : hasW w rs x j = true) : hasW w rs x i = true :=
  sub_iff.1 (clo_mono hg h) _ hj
theorem least_iff {w : Int} {rs : List (List Int × Int)} (hg : Gd w rs) {x : Int} {s i : Nat} (hs : s < 2 ^ w.toNat) (hi : i < 2 ^ w.toNat) (his : subB i s = true) :
    (!((List.range (2 ^ w.toNat)).filter (fun i => subB i s && hasW w rs x i)).any (fun j => decide (i ≠ j) && subB j i)) = leastW w rs x i := by
  obtain ⟨hw1, hw2, _⟩ := guild_spec hg
  have hp := pow10 hw2
  rw [Bool.eq_iff_iff, Bool.not_eq_true', ← Bool.not_eq_true, List.any_eq_true]
  unfold leastW
  rw [List.all_eq_true]
  constructor
  · intro hn j hj
    rw [Bool.not_eq_true', ← Bool.not_eq_true, Bool.and_eq_true]
    rintro ⟨h1, h2⟩
    obtain ⟨g1, g2, g3⟩ := without_one (i := i) (j := j) (by omega)
    refine hn ⟨andNot i (2 ^ j), List.mem_filter.2 ⟨List.mem_range.2 ?_, ?_⟩, ?_⟩
    · exact Nat.lt_of_le_of_lt (sub_le g2) hi
    · rw [Bool.and_eq_true]; exact ⟨sub_trans g2 his, h2⟩
    · rw [Bool.and_eq_true, decide_eq_true_eq]
      refine ⟨fun e => ?_, g2⟩
      have := g1 j
      rw [← e, h1] at this
      simp at this
  · rintro h ⟨j, hj, hb⟩
    rw [Bool.and_eq_true, decide_eq_true_eq] at hb
    obtain ⟨hj1, hj2⟩ := List.mem_filter.1 hj
    rw [Bool.and_eq_true] at hj2
    obtain ⟨b, h1, h2⟩ := sub_antisymm' (Ne.symm hb.1) hb.2
    have hbw := test_pow hi h1
    have := h b (List.mem_range.2 hbw)
    rw [h1, Bool.true_and, Bool.not_eq_true'] at this
    obtain ⟨g1, g2, g3⟩ := without_one (i := i) (j := b) (by omega)
    have h3 : subB j (andNot i (2 ^ b)) = true := sub_iff.2 fun k hk => by
      rw [g1, sub_iff.1 hb.2 k hk]
      simp only [Bool.true_and, decide_eq_true_eq]
      intro e; subst e; rw [h2] at hk; cases hk
    rw [has_mono hg h3 hj2.2] at this
    cases this

theorem wordErr_ok {w : Int} {rs : List (List Int × Int)} {l : List Int} {x : Int} (h : wordErr w rs l x = 0) : Gd w rs ∧ isList l w = true ∧ 0 ≤ x ∧ x < w := by
  unfold wordErr at h
  split at h
  · rename_i h1; exact absurd h h1
  · rename_i h1
    obtain ⟨h2, h3⟩ := label_ok (Decidable.byContradiction h1)
    split at h
    · rename_i h4; exact ⟨h2, h3, h4⟩
    · cases h
theorem reaL_eq (w : Int) (rs : List (List Int × Int)) (l : List Int) (x : Int) : reaL w rs l x = reaL2 w rs l x := by
  unfold reaL reaL2
  by_cases h : wordErr w rs l x = 0
  · rw [if_pos h, if_pos h]
    obtain ⟨hg, hl, hx⟩ := wordErr_ok h
    obtain ⟨hw1, hw2, _⟩ := guild_spec hg
    have hs := bits_ltw hl
    unfold listsE reaRef
    congr 1
    rw [show (fun e : Nat × Int × Int => listI e.2.1) = listI ∘ (fun e => e.2.1) from rfl, ← List.map_map, min_keys]
    unfold goodsR bitsI
    rw [goods_range hs, min_nat, List.map_map, List.filter_filter]
    have e1 : (List.range (2 ^ w.toNat)).filter (fun a => (!((List.range (2 ^ w.toNat)).filter (fun i => subB i (bitsL l) && reasonOk w rs (andI 0 x) (i : Int))).any (fun j => decide (a ≠ j) && subB j a)) && (subB a (bitsL l) && reasonOk w rs (andI 0 x) (a : Int))) = (List.range (2 ^ w.toNat)).filter (reaG w rs (bitsL l) x) := by
      refine List.filter_congr (fun i hi => ?_)
      have hi := List.mem_range.1 hi
      simp only [reason_nat]
      unfold reaG
      cases hsub : subB i (bitsL l) with
      | false => simp
      | true =>
        rw [least_iff hg hs hi hsub]
        cases hasW w rs x i <;> simp
    rw [e1]
    refine List.map_congr_left (fun i hi => ?_)
    have hi := List.mem_range.1 (List.mem_filter.1 hi).1
    exact listI_w ⟨by omega, hw2⟩ hi
  · rw [if_neg h, if_neg h]
end Go.Abs.Label
end

section
/- Plain laws of labels: keys, what is taken, idle rules: two ways agree. -/
open Go.Proofs
set_option maxRecDepth 100000
set_option linter.unusedVariables false
namespace Go.Abs.Label

/-! ### keys -/
theorem keyOk_nat (w : Int) (rs : List (List Int × Int)) (b i : Nat) : keyOk w rs (fromI w rs (b : Int)) (i : Int) = decide (clo w rs i = clo w rs b) := by
  unfold keyOk
  rw [fromI_nat, fromI_nat, decide_eq_decide]
  omega
def lenW (w : Int) (i : Nat) : Nat := (listed i w.toNat).length
/-- What the fold over keys says. -/
structure KeyAt (w : Int) (F : List Nat) (s : Int × List (List Int)) : Prop where
  ex : ∃ m : Nat, s.1 = (m : Int) ∧ (∀ j ∈ F, m ≤ lenW w j) ∧ ((m = w.toNat) ∨ ∃ j ∈ F, lenW w j = m) ∧ s.2 = (F.filter (fun j => decide (lenW w j = m))).map (fun j => listed j w.toNat)
theorem key_fold {w : Int} (hw : 0 ≤ w) : ∀ (R F : List Nat) (s : Int × List (List Int)), KeyAt w F s → KeyAt w (F ++ R) (R.foldl (keyStep w) s)
  | [], F, s, h => by rw [List.append_nil]; exact h
  | i :: R, F, s, h => by
    have : KeyAt w (F ++ [i]) (keyStep w s i) := by
      obtain ⟨m, h1, h2, h3, h4⟩ := h.ex
      have hl : ((listed i w.toNat).length : Int) = (lenW w i : Int) := rfl
      unfold keyStep
      rw [hl, h1]
      by_cases g1 : ((lenW w i : Nat) : Int) < (m : Int)
      · rw [if_pos g1]
        refine ⟨lenW w i, rfl, fun j hj => ?_, .inr ⟨i, by simp, rfl⟩, ?_⟩
        · rcases List.mem_append.1 hj with hj | hj
          · have := h2 j hj; omega
          · rw [List.mem_singleton.1 hj]; exact Nat.le_refl _
        · have : F.filter (fun j => decide (lenW w j = lenW w i)) = [] := by
            rw [List.filter_eq_nil_iff]
            intro j hj hd
            have := h2 j hj
            have := of_decide_eq_true hd
            omega
          rw [List.filter_append, this]
          simp
      · rw [if_neg g1]
        by_cases g2 : ((lenW w i : Nat) : Int) = (m : Int)
        · rw [if_pos g2]
          have e : lenW w i = m := by omega
          refine ⟨m, rfl, fun j hj => ?_, .inr ⟨i, by simp, e⟩, ?_⟩
          · rcases List.mem_append.1 hj with hj | hj
            · exact h2 j hj
            · rw [List.mem_singleton.1 hj]; omega
          · rw [List.filter_append, List.map_append, h4]
            simp [e]
        · rw [if_neg g2]
          refine ⟨m, h1, fun j hj => ?_, h3.imp_right (fun ⟨j, hj, e⟩ => ⟨j, by simp [hj], e⟩), ?_⟩
          · rcases List.mem_append.1 hj with hj | hj
            · exact h2 j hj
            · rw [List.mem_singleton.1 hj]; omega
          · have e : ¬ lenW w i = m := by omega
            rw [List.filter_append, List.map_append, h4]
            simp [e]
    have := key_fold hw R (F ++ [i]) _ this
    rw [List.append_assoc] at this
    exact this
theorem cnt_w {w : Int} (hw : 0 ≤ w ∧ w ≤ 10) {i : Nat} (hi : i < 2 ^ w.toNat) : cntI (i : Int) = (lenW w i : Int) := by
  have := listI_w hw hi
  unfold listI at this
  rw [Int.toNat_natCast] at this
  unfold cntI cnt lenW
  rw [Int.toNat_natCast, this]
theorem lenW_strict {w : Int} {i j : Nat} (hi : i < 2 ^ w.toNat) (hne : j ≠ i) (h : subB j i = true) : lenW w j < lenW w i := by
  obtain ⟨b, h1, h2⟩ := sub_antisymm' hne h
  exact listed_strict h h2 h1 _ (test_pow hi h1)

theorem keyL_eq (w : Int) (rs : List (List Int × Int)) (l : List Int) : keyL w rs l = keyL2 w rs l := by
  unfold keyL keyL2
  by_cases h : labelErr w rs l = 0
  · rw [if_pos h, if_pos h]
    obtain ⟨hg, hl⟩ := label_ok h
    obtain ⟨hw1, hw2, _⟩ := guild_spec hg
    have hw : 0 ≤ w ∧ w ≤ 10 := ⟨by omega, hw2⟩
    have hs := bits_ltw hl
    generalize hsb : bitsL l = s at hs
    unfold listsE keyRef
    congr 1
    have hI : bitsI l = (s : Int) := by unfold bitsI; rw [hsb]
    rw [hI]
    -- the keys in order
    obtain ⟨F, hF⟩ : ∃ F, (List.range (2 ^ w.toNat)).filter (keyG w rs s) = F := ⟨_, rfl⟩
    have memF : ∀ {i}, i ∈ F ↔ i < 2 ^ w.toNat ∧ subB i s = true ∧ clo w rs i = clo w rs s := by
      intro i
      rw [← hF, List.mem_filter, List.mem_range]
      unfold keyG
      rw [Bool.and_eq_true, decide_eq_true_eq]
    have hsF : s ∈ F := memF.2 ⟨hs, le_refl_sub s, rfl⟩
    rw [hF]
    obtain ⟨m, e1, e2, e3, e4⟩ := (key_fold (w := w) (by omega) F [] (w, []) ⟨w.toNat, by simp; omega, by simp, .inl rfl, rfl⟩).ex
    rw [List.nil_append] at e2 e3 e4
    rw [e4]
    have hatt : ∃ j ∈ F, lenW w j = m := by
      rcases e3 with e3 | e3
      · refine ⟨s, hsF, ?_⟩
        have h1 := e2 s hsF
        have h2 : lenW w s ≤ w.toNat := listed_len _ _
        omega
      · exact e3
    -- the least of them
    have hgoods : goodsK w rs (fromI w rs (s : Int)) (s : Int) = F.map Int.ofNat := by
      unfold goodsK
      rw [goods_range hs, ← hF]
      congr 1
      refine List.filter_congr (fun i _ => ?_)
      rw [keyOk_nat]; rfl
    have hM : (minE (goodsK w rs (fromI w rs (s : Int)) (s : Int))).map (fun e => e.2.1) = (F.filter (fun i => !F.any (fun j => decide (i ≠ j) && subB j i))).map Int.ofNat := by
      rw [min_keys, hgoods, min_nat]
    obtain ⟨M, hMd⟩ : ∃ M, F.filter (fun i => !F.any (fun j => decide (i ≠ j) && subB j i)) = M := ⟨_, rfl⟩
    have least : ∀ i ∈ F, lenW w i = m → i ∈ M := by
      intro i hi hm
      rw [← hMd]
      refine List.mem_filter.2 ⟨hi, ?_⟩
      rw [Bool.not_eq_true', ← Bool.not_eq_true, List.any_eq_true]
      rintro ⟨j, hj, hb⟩
      rw [Bool.and_eq_true, decide_eq_true_eq] at hb
      have := lenW_strict (memF.1 hi).1 (Ne.symm hb.1) hb.2
      have := e2 j hj
      omega
    have hMF : ∀ i ∈ M, i ∈ F := fun i hi => by rw [← hMd] at hi; exact (List.mem_filter.1 hi).1
    obtain ⟨j0, hj0, hj0m⟩ := hatt
    have hMne : M.map Int.ofNat ≠ [] := by
      have := least j0 hj0 hj0m
      intro e
      rw [List.map_eq_nil_iff] at e
      rw [e] at this; simp at this
    obtain ⟨hb1, hb2⟩ := best_spec hMne
    obtain ⟨jb, hjb, ejb⟩ := List.mem_map.1 hb1
    have hbm : cntI (bestC (M.map Int.ofNat)) = (m : Int) := by
      have g1 := hb2 _ (List.mem_map_of_mem (f := Int.ofNat) (least j0 hj0 hj0m))
      have g2 : cntI ((j0 : Nat) : Int) = (lenW w j0 : Int) := cnt_w hw (memF.1 hj0).1
      have g3 : cntI ((jb : Nat) : Int) = (lenW w jb : Int) := cnt_w hw (memF.1 (hMF _ hjb)).1
      have g4 := e2 jb (hMF _ hjb)
      have g5 : cntI (bestC (M.map Int.ofNat)) = cntI ((jb : Nat) : Int) := by rw [← ejb]; rfl
      have g6 : cntI (Int.ofNat j0) = cntI ((j0 : Nat) : Int) := rfl
      omega
    unfold fewE
    rw [hM, hMd, hbm]
    rw [show (fun e : Nat × Int × Int => listI e.2.1) = listI ∘ (fun e => e.2.1) from rfl, ← List.map_map]
    rw [show (fun e : Nat × Int × Int => !decide (cntI e.2.1 > (m : Int))) = (fun y => !decide (cntI y > (m : Int))) ∘ (fun e => e.2.1) from rfl, ← List.filter_map, hM, hMd, List.filter_map, List.map_map]
    have e5 : M.filter ((fun y => !decide (cntI y > (m : Int))) ∘ Int.ofNat) = F.filter (fun j => decide (lenW w j = m)) := by
      rw [← hMd, List.filter_filter]
      refine List.filter_congr (fun i hi => ?_)
      have g1 : cntI (Int.ofNat i) = (lenW w i : Int) := cnt_w hw (memF.1 hi).1
      have g2 := e2 i hi
      show ((!decide (cntI (Int.ofNat i) > (m : Int))) && _) = _
      rw [g1]
      by_cases g : lenW w i = m
      · have := least i hi g
        rw [← hMd] at this
        rw [(List.mem_filter.1 this).2]
        rw [decide_eq_false (show ¬ ((lenW w i : Nat) : Int) > (m : Int) by omega), decide_eq_true g]; rfl
      · rw [decide_eq_true (show ((lenW w i : Nat) : Int) > (m : Int) by omega), decide_eq_false g]; rfl
    rw [e5]
    refine List.map_congr_left (fun i hi => ?_)
    exact listI_w hw (memF.1 (List.mem_filter.1 hi).1).1
  · rw [if_neg h, if_neg h]

/-! ### what is taken -/
theorem best_fold {bet : List Int → List Int → Bool} (hO : Order bet) : ∀ (L : List (List Int)) (b : List Int),
    (L.foldl (fun b y => if bet y b then y else b) b = b ∨ L.foldl (fun b y => if bet y b then y else b) b ∈ L) ∧ bet b (L.foldl (fun b y => if bet y b then y else b) b) = false ∧ ∀ y ∈ L, bet y (L.foldl (fun b y => if bet y b then y else b) b) = false
  | [], b => ⟨.inl rfl, hO.irr b, by simp⟩
  | x :: L, b => by
    rw [List.foldl_cons]
    obtain ⟨h1, h2, h3⟩ := best_fold hO L (if bet x b then x else b)
    generalize L.foldl (fun b y => if bet y b then y else b) (if bet x b then x else b) = r at h1 h2 h3 ⊢
    by_cases hx : bet x b = true
    · rw [if_pos hx] at h1 h2
      refine ⟨.inr (h1.elim (fun e => by rw [e]; simp) (fun h => List.mem_cons_of_mem _ h)), ?_, fun y hy => ?_⟩
      · rw [← Bool.not_eq_true]
        intro hb
        rw [hO.tr _ _ _ hx hb] at h2; cases h2
      · rcases List.mem_cons.1 hy with rfl | hy
        · exact h2
        · exact h3 y hy
    · rw [if_neg hx] at h1 h2
      refine ⟨h1.imp_right (fun h => List.mem_cons_of_mem _ h), h2, fun y hy => ?_⟩
      rcases List.mem_cons.1 hy with rfl | hy
      · rw [← Bool.not_eq_true]
        intro hb
        rcases hO.tot b y with e | e | e
        · subst e; rw [hb] at h2; cases h2
        · rw [hO.tr _ _ _ e hb] at h2; cases h2
        · exact hx e
      · exact h3 y hy
theorem best_same {bet : List Int → List Int → Bool} (hO : Order bet) {a b : List Int} (h1 : bet a b = false) (h2 : bet b a = false) : a = b := by
  rcases hO.tot a b with e | e | e
  · exact e
  · rw [h1] at e; cases e
  · rw [h2] at e; cases e

theorem takeErr_ok {w : Int} {rs : List (List Int × Int)} {l : List Int} (h : takeErr w rs l = 0) : labelErr w rs l = 0 ∧ banned w rs 0 = false := by
  unfold takeErr at h
  split at h
  · rename_i h1; exact absurd h h1
  · rename_i h1
    refine ⟨Decidable.byContradiction h1, ?_⟩
    split at h
    · cases h
    · rename_i h2; simpa using h2
theorem andNot_self {s : Nat} (hs : s < 1024) : andNot s s = 0 := by
  apply Nat.eq_of_testBit_eq
  intro i
  rw [Nat.zero_testBit]
  rcases Nat.lt_or_ge i 10 with h | h
  · rw [notI_test h]; simp
  · exact Nat.testBit_lt_two_pow (Nat.lt_of_lt_of_le (notI_lt hs) (Nat.pow_le_pow_right (n := 2) (by omega) h))
theorem takeL_eq (w : Int) (rs : List (List Int × Int)) (l : List Int) : takeL w rs l = takeL2 w rs l := by
  unfold takeL takeL2
  by_cases h : takeErr w rs l = 0
  · rw [if_pos h, if_pos h]
    obtain ⟨h0, hb0⟩ := takeErr_ok h
    obtain ⟨hg, hl⟩ := label_ok h0
    obtain ⟨hw1, hw2, _⟩ := guild_spec hg
    have hw : 0 ≤ w ∧ w ≤ 10 := ⟨by omega, hw2⟩
    have hs := bits_ltw hl
    have hp := pow10 hw2
    generalize hsb : bitsL l = s at hs
    have hI : bitsI l = (s : Int) := by unfold bitsI; rw [hsb]
    rw [hI]
    obtain ⟨F, hF⟩ : ∃ F, (List.range (2 ^ w.toNat)).filter (fun i => subB i s && takeG w rs s i) = F := ⟨_, rfl⟩
    have memF : ∀ {i}, i ∈ F ↔ i < 2 ^ w.toNat ∧ subB i s = true ∧ takeG w rs s i = true := by
      intro i
      rw [← hF, List.mem_filter, List.mem_range, Bool.and_eq_true]
    have hsF : s ∈ F := memF.2 ⟨hs, le_refl_sub s, by unfold takeG; rw [andNot_self (by omega), hb0]; rfl⟩
    have ht : triesI w rs (s : Int) = F.map (fun i => listed i w.toNat) := by
      unfold triesI
      rw [Int.toNat_natCast, parts_range hs, hF]
      refine List.map_congr_left (fun i hi => ?_)
      have := listI_w hw (memF.1 hi).1
      unfold listI at this
      rwa [Int.toNat_natCast] at this
    have hO : Order betT := order_betL
    -- the two folds
    have e2 : takeRef w rs s = (F.map (fun i => listed i w.toNat)).foldl (fun b y => if betT y b then y else b) (listed s w.toNat) := by
      unfold takeRef
      rw [hF, List.foldl_map]; rfl
    obtain ⟨a1, a2, a3⟩ := best_fold hO (F.map (fun i => listed i w.toNat)) (listed s w.toNat)
    rw [← e2] at a1 a2 a3
    have hm : listed s w.toNat ∈ F.map (fun i => listed i w.toNat) := List.mem_map_of_mem hsF
    have a4 : takeRef w rs s ∈ F.map (fun i => listed i w.toNat) := by
      rcases a1 with e | e
      · rw [e]; exact hm
      · exact e
    have b4 : bestT (triesI w rs (s : Int)) ∈ F.map (fun i => listed i w.toNat) ∧ ∀ y ∈ F.map (fun i => listed i w.toNat), betT y (bestT (triesI w rs (s : Int))) = false := by
      rw [ht]
      cases hL : F.map (fun i => listed i w.toNat) with
      | nil => rw [hL] at hm; simp at hm
      | cons x L =>
        obtain ⟨c1, c2, c3⟩ := best_fold hO L x
        show L.foldl (fun b y => if betT y b then y else b) x ∈ x :: L ∧ ∀ y ∈ x :: L, betT y (L.foldl (fun b y => if betT y b then y else b) x) = false
        refine ⟨c1.elim (fun e => by rw [e]; simp) (fun e => List.mem_cons_of_mem _ e), fun y hy => ?_⟩
        rcases List.mem_cons.1 hy with rfl | hy
        · exact c2
        · exact c3 y hy
    exact best_same hO (a3 _ b4.1) (b4.2 _ a4)
  · rw [if_neg h, if_neg h]
end Go.Abs.Label
end

section
/- Plain laws of labels: idle rules, two ways; steps lead to what follows. -/
open Go.Proofs
set_option maxRecDepth 100000
set_option linter.unusedVariables false
namespace Go.Abs.Label

/-! ### fewer rules -/
theorem closed_less {rs rs2 : List (List Int × Int)} {c : Nat} (h : ∀ r ∈ rs2, r ∈ rs) (hc : ClosedR rs c) : ClosedR rs2 c := fun r hr => hc r (h r hr)
theorem clo_less {w : Int} {rs rs2 : List (List Int × Int)} (hg : Gd w rs) (h : ∀ r ∈ rs2, r ∈ rs) (b : Nat) : subB (clo w rs2 b) (clo w rs b) = true := by
  obtain ⟨h1, _⟩ := guild_spec hg
  exact clo_least (closed_less h (clo_closed (by omega) (gd_w hg) b)) (clo_sub _ _ _)
theorem ban_less {w : Int} {rs rs2 : List (List Int × Int)} (hg : Gd w rs) (h : ∀ r ∈ rs2, r ∈ rs) {b : Nat} (hb : banned w rs2 b = true) : banned w rs b = true := by
  obtain ⟨r, h1, h2, h3⟩ := ban_iff.1 hb
  exact ban_iff.2 ⟨r, h r h1, h2, sub_trans h3 (clo_less hg h b)⟩
theorem without_mem {rs : List (List Int × Int)} {r : Int} (h0 : 0 ≤ r) (h : r < rs.length) {y : List Int × Int} : y ∈ rs ↔ y ∈ without rs r ∨ y = ruleAt rs r := by
  have hr : r.toNat < rs.length := by omega
  rw [rule_at h0 hr]
  unfold without
  have e : rs = rs.take r.toNat ++ rs[r.toNat] :: rs.drop (r.toNat + 1) := by
    rw [← List.drop_eq_getElem_cons hr, List.take_append_drop]
  conv => lhs; rw [e]
  simp only [List.mem_append, List.mem_cons]
  constructor
  · rintro (h | h | h)
    · exact .inl (.inl h)
    · exact .inr h
    · exact .inl (.inr h)
  · rintro ((h | h) | h)
    · exact .inl h
    · exact .inr (.inr h)
    · exact .inr (.inl h)

/-- Without a rule all is as with it, if what it tells follows from its If by the others. -/
theorem idle_same {w : Int} {rs : List (List Int × Int)} {r : Int} (hg : Gd w rs) (h0 : 0 ≤ r) (h : r < rs.length) (hi : idleOf w rs r = true) (b : Nat) : clo w rs b = clo w (without rs r) b ∧ banned w rs b = banned w (without rs r) b := by
  obtain ⟨hw1, _⟩ := guild_spec hg
  have hg2 := gd_without hg r
  have hin : ∀ y ∈ without rs r, y ∈ rs := fun y hy => (without_mem h0 h).2 (.inl hy)
  unfold idleOf at hi
  rw [show rs.getD r.toNat ([], 0) = ruleAt rs r from rfl] at hi
  have hc2 := clo_closed (w := w) (by omega) (gd_w hg2) b
  have hcl : ClosedR rs (clo w (without rs r) b) := by
    intro y hy hy0 hys
    rcases (without_mem h0 h).1 hy with hy | rfl
    · exact hc2 y hy hy0 hys
    · rw [if_neg (by omega)] at hi
      exact sub_iff.1 (clo_into hg2 hys) _ hi
  have e : clo w rs b = clo w (without rs r) b := sub_antisymm (clo_least hcl (clo_sub _ _ _)) (clo_less hg hin b)
  refine ⟨e, ?_⟩
  rw [Bool.eq_iff_iff]
  refine ⟨fun hb => ?_, ban_less hg hin⟩
  obtain ⟨y, hy, hy0, hys⟩ := ban_iff.1 hb
  rw [e] at hys
  rcases (without_mem h0 h).1 hy with hy | rfl
  · exact ban_iff.2 ⟨y, hy, hy0, hys⟩
  · rw [if_pos hy0] at hi
    exact ban_mono hg2 hys hi
/-- A rule that is not idle has a label that tells it. -/
theorem idle_tells {w : Int} {rs : List (List Int × Int)} {r : Int} (h0 : 0 ≤ r) (h : r < rs.length) (hcl : clo w rs (bitsL (ruleAt rs r).1) = clo w (without rs r) (bitsL (ruleAt rs r).1)) (hb : banned w rs (bitsL (ruleAt rs r).1) = banned w (without rs r) (bitsL (ruleAt rs r).1))
    (hg : Gd w rs) : idleOf w rs r = true := by
  obtain ⟨hw1, _⟩ := guild_spec hg
  have hm := (without_mem h0 h).2 (.inr rfl)
  unfold idleOf
  rw [show rs.getD r.toNat ([], 0) = ruleAt rs r from rfl]
  by_cases h2 : (ruleAt rs r).2 < 0
  · rw [if_pos h2, ← hb]
    exact ban_iff.2 ⟨_, hm, h2, clo_sub _ _ _⟩
  · rw [if_neg h2, ← hcl]
    exact clo_closed (by omega) (gd_w hg) _ _ hm (by omega) (clo_sub _ _ _)
theorem idleErr_ok {w : Int} {rs : List (List Int × Int)} {r : Int} (h : idleErr w rs r = 0) : Gd w rs ∧ 0 ≤ r ∧ r < rs.length := by
  unfold idleErr at h
  split at h
  · rename_i h1; exact absurd h h1
  · rename_i h1
    split at h
    · rename_i h2; exact ⟨Decidable.byContradiction h1, h2⟩
    · cases h
theorem idleB_eq (w : Int) (rs : List (List Int × Int)) (r : Int) : idleB w rs r = idleB2 w rs r := by
  unfold idleB idleB2
  by_cases h : idleErr w rs r = 0
  · rw [decide_eq_true h, Bool.true_and, Bool.true_and]
    obtain ⟨hg, h0, h1⟩ := idleErr_ok h
    rw [Bool.eq_iff_iff]
    unfold idleRef
    rw [List.all_eq_true]
    constructor
    · intro hi i _
      obtain ⟨e1, e2⟩ := idle_same hg h0 h1 hi i
      unfold sameAt
      rw [e1, e2]; simp
    · intro hall
      have hm := (without_mem h0 h1).2 (.inr rfl)
      have hlt := bits_ltw ((guild_spec hg).2.2.2 _ hm).2.1
      have := hall _ (List.mem_range.2 hlt)
      unfold sameAt at this
      rw [Bool.and_eq_true, decide_eq_true_eq, beq_iff_eq] at this
      exact idle_tells h0 h1 this.1 this.2 hg
  · rw [decide_eq_false h, Bool.false_and, Bool.false_and]

/-! ### steps -/
/-- What steps lead to follows. -/
theorem goS_sound {w : Int} {rs : List (List Int × Int)} (hg : Gd w rs) {word : Int} (b : Nat) : ∀ (s : List Int) (t : Nat), (∀ i ∈ s, 0 ≤ i ∧ i < rs.length) → subB t (clo w rs b) = true → goS rs word s t = 0 → (word < 0 → banned w rs b = true) ∧ (0 ≤ word → (clo w rs b).testBit word.toNat = true)
  | [], t, _, ht, h => by
    unfold goS at h
    split at h
    · cases h
    · rename_i h1
      have h1 := not_or.1 h1
      refine ⟨fun h2 => absurd h2 h1.1, fun _ => sub_iff.1 ht _ ?_⟩
      simpa using h1.2
  | i :: s, t, hi, ht, h => by
    obtain ⟨hw1, _⟩ := guild_spec hg
    unfold goS at h
    split at h
    · cases h
    · rename_i h1
      have h1 := not_or.1 h1
      have hsub : subB (bitsL (ruleAt rs i).1) t = true := by simpa using h1.2
      have hii := hi i (List.mem_cons_self ..)
      have hm : ruleAt rs i ∈ rs := by rw [rule_at hii.1 (by omega)]; exact List.getElem_mem _
      split at h
      · rename_i h2
        refine ⟨fun _ => ban_iff.2 ⟨_, hm, h2, sub_trans hsub ht⟩, fun h3 => ?_⟩
        exact absurd ⟨h2, .inl h3⟩ h1.1
      · rename_i h2
        refine goS_sound hg b s _ (fun j hj => hi j (List.mem_cons_of_mem _ hj)) ?_ h
        refine sub_iff.2 fun j hj => ?_
        rcases or_test.1 hj with hj | hj
        · exact sub_iff.1 ht j hj
        · subst hj
          exact clo_closed (by omega) (gd_w hg) b _ hm (by omega) (sub_trans hsub ht)

theorem chkS_ok {w : Int} {rs : List (List Int × Int)} {l : List Int} {word : Int} {s : List Int} (h : chkS w rs l word s = 0) : labelErr w rs l = 0 ∧ (-1 ≤ word ∧ word < w) ∧ (∀ i ∈ s, 0 ≤ i ∧ i < rs.length) ∧ goS rs word s (bitsL l) = 0 := by
  unfold chkS at h
  split at h
  · rename_i h1; exact absurd h h1
  · rename_i h1
    split at h
    · cases h
    · rename_i h2
      split at h
      · cases h
      · rename_i h3
        refine ⟨Decidable.byContradiction h1, ?_, fun i hi => ?_, h⟩
        · have h2 : outOf (-1) (w - 1) word = false := by simpa using h2
          unfold outOf at h2
          have := of_decide_eq_false h2
          omega
        · have h3 : s.any (stepBad rs) = false := by simpa using h3
          have := (List.any_eq_false.1 h3) i hi
          have : stepBad rs i = false := by simpa using this
          unfold stepBad outOf at this
          have := of_decide_eq_false this
          omega
theorem chkS_of {w : Int} {rs : List (List Int × Int)} {l : List Int} {word : Int} {s : List Int} (h0 : labelErr w rs l = 0) (h1 : -1 ≤ word ∧ word < w) (h2 : ∀ i ∈ s, 0 ≤ i ∧ i < rs.length) : chkS w rs l word s = goS rs word s (bitsL l) := by
  unfold chkS
  have e1 : outOf (-1) (w - 1) word = false := by unfold outOf; exact decide_eq_false (by omega)
  have e2 : s.any (stepBad rs) = false := by
    rw [List.any_eq_false]
    intro i hi
    have := h2 i hi
    unfold stepBad outOf
    simp only [decide_eq_true_eq]
    omega
  rw [if_neg (by omega), e1, e2]
  simp

/-! the steps in order -/
structure RunAt (rs : List (List Int × Int)) (b : Nat) (s : Nat × List Int) : Prop where
  lt : s.1 < 1024
  sub : subB b s.1 = true
  least : ∀ d, ClosedR rs d → subB b d = true → subB s.1 d = true
  rng : ∀ i ∈ s.2, 0 ≤ i ∧ i < rs.length
  cnt : s.2.length ≤ (listed s.1 10).length
  /-- back from the end: what needs no more than is known is kept -/
  back : ∀ (word : Int) (N : Nat) (kept : List Int), subB N s.1 = true ∨ True → (∀ t, subB b t = true → (∀ i, N.testBit i = true → s.1.testBit i = true → t.testBit i = true) → goS rs word kept t = 0) →
    goS rs word ((s.2.reverse.foldl (backS rs b) (N, kept.reverse)).2.reverse) b = 0
theorem indexOf_cons {α : Type} (p : α → Bool) (x : α) (l : List α) : indexOf p (x :: l) = if p x then 0 else (if indexOf p l < 0 then -1 else indexOf p l + 1) := rfl
theorem indexOf_sat {α : Type} (p : α → Bool) : ∀ (l : List α) (h : (indexOf p l).toNat < l.length), 0 ≤ indexOf p l → p (l[(indexOf p l).toNat]'h) = true
  | [], h, _ => by simp at h
  | x :: l, h, h0 => by
    by_cases hx : p x = true
    · have e : indexOf p (x :: l) = 0 := by rw [indexOf_cons, if_pos hx]
      simp only [e]
      exact hx
    · by_cases hn : indexOf p l < 0
      · have e : indexOf p (x :: l) = -1 := by rw [indexOf_cons, if_neg hx, if_pos hn]
        omega
      · have e : indexOf p (x :: l) = indexOf p l + 1 := by rw [indexOf_cons, if_neg hx, if_neg hn]
        have e2 : (indexOf p (x :: l)).toNat = (indexOf p l).toNat + 1 := by omega
        simp only [e2, List.getElem_cons_succ]
        exact indexOf_sat p l _ (by omega)
theorem runS_run {rs : List (List Int × Int)} (hok : okThen rs) (hif : ∀ r ∈ rs, bitsL r.1 < 1024) {b : Nat} (hb : b < 1024) : ∀ (n : Nat) (s : Nat × List Int), RunAt rs b s → RunAt rs b (runS rs n s) ∧ (10 < n + s.2.length → ∀ r ∈ rs, grantR (runS rs n s).1 r = false)
  | 0, s, h => by
    refine ⟨h, fun hn => ?_⟩
    have := h.cnt
    have := listed_len s.1 10
    omega
  | n + 1, s, h => by
    unfold runS
    split
    · rename_i hi
      refine ⟨h, fun _ r hr => ?_⟩
      rw [← Bool.not_eq_true]
      intro hgr
      obtain ⟨j, hj, rfl⟩ := List.getElem_of_mem hr
      have := indexOf_ge (grantR s.1) rs
      have h2 : rs.any (grantR s.1) = true := List.any_eq_true.2 ⟨_, hr, hgr⟩
      rw [h2, decide_eq_true_eq] at this
      omega
    · rename_i hi
      obtain ⟨g0, g1⟩ := indexOf_range _ _ hi
      generalize hii : indexOf (grantR s.1) rs = i at hi g0 g1 ⊢
      have hra := rule_at g0 g1
      have hm : ruleAt rs i ∈ rs := by rw [hra]; exact List.getElem_mem _
      have hgr : grantR s.1 (ruleAt rs i) = true := by
        rw [hra]
        have := indexOf_sat (grantR s.1) rs (by rw [hii]; exact g1) (by rw [hii]; exact g0)
        simp only [hii] at this
        exact this
      generalize hr : ruleAt rs i = r at hm hgr ⊢
      unfold grantR at hgr
      simp only [Bool.and_eq_true, decide_eq_true_eq, Bool.not_eq_true'] at hgr
      obtain ⟨k0, k1, k2⟩ := hgr
      have hth := hok r hm
      have hnew : RunAt rs b (s.1 ||| 2 ^ r.2.toNat, s.2 ++ [i]) := by
        refine ⟨or_lt h.lt (by omega), sub_trans h.sub (sub_or _ _), fun d hd hbd => ?_, fun j hj => ?_, ?_, ?_⟩
        · have h3 := h.least d hd hbd
          refine sub_iff.2 fun j hj => ?_
          rcases or_test.1 hj with h4 | h4
          · exact sub_iff.1 h3 j h4
          · subst h4; exact hd r hm k0 (sub_trans k1 h3)
        · rcases List.mem_append.1 hj with hj | hj
          · exact h.rng j hj
          · rw [List.mem_singleton.1 hj]; omega
        · have := listed_strict (sub_or s.1 (2 ^ r.2.toNat)) k2 (or_test.2 (.inr rfl)) 10 (by omega)
          have := h.cnt
          simp only [List.length_append, List.length_cons, List.length_nil]
          show _ ≤ (listed (s.1 ||| 2 ^ r.2.toNat) 10).length
          omega
        · intro word N kept _ hk
          rw [List.reverse_append, List.reverse_singleton, List.singleton_append, List.foldl_cons]
          have neg : ¬ r.2 < 0 := by omega
          by_cases hN : N.testBit r.2.toNat = true
          · have e : backS rs b (N, kept.reverse) i = (andNot (N ||| bitsL r.1) b, (i :: kept).reverse) := by
              unfold backS
              rw [hr, if_pos (.inr hN)]; simp
            rw [e]
            refine h.back word _ (i :: kept) (.inr trivial) (fun t ht hN' => ?_)
            have hbit : ∀ j, j < 10 → (N ||| bitsL r.1).testBit j = true → s.1.testBit j = true → t.testBit j = true := by
              intro j hj h1 h2
              by_cases h3 : b.testBit j = true
              · exact sub_iff.1 ht j h3
              · exact hN' j (by rw [notI_test hj, h1]; simpa using h3) h2
            have hs1 : ∀ j, s.1.testBit j = true → j < 10 := fun j hj => test_lt h.lt hj
            have hIf : subB (bitsL r.1) t = true := sub_iff.2 fun j hj => hbit j (hs1 j (sub_iff.1 k1 j hj)) (by rw [Nat.testBit_or, hj, Bool.or_true]) (sub_iff.1 k1 j hj)
            unfold goS
            rw [hr, hIf, if_neg (fun h => h.elim (fun h => neg h.1) (fun h => nomatch h)), if_neg neg]
            refine hk _ (sub_trans ht (sub_or _ _)) (fun j h1 h2 => ?_)
            rcases or_test.1 h2 with h2 | h2
            · exact or_test.2 (.inl (hbit j (hs1 j h2) (by rw [Nat.testBit_or, h1]; rfl) h2))
            · exact or_test.2 (.inr h2)
          · have e : backS rs b (N, kept.reverse) i = (N, kept.reverse) := by
              unfold backS
              rw [hr, if_neg (fun h => h.elim (fun h => neg h) (fun h => hN h))]
            rw [e]
            refine h.back word N kept (.inr trivial) (fun t ht hN' => hk t ht (fun j h1 h2 => ?_))
            rcases or_test.1 h2 with h2 | h2
            · exact hN' j h1 h2
            · subst h2; exact absurd h1 hN
      obtain ⟨q1, q2⟩ := runS_run hok hif hb n _ hnew
      refine ⟨q1, fun hn => q2 ?_⟩
      simp only [List.length_append, List.length_cons, List.length_nil]
      omega
end Go.Abs.Label
end

section
/- Plain laws of labels: the steps that are returned lead to what follows, and none can be left out. -/
open Go.Proofs
set_option maxRecDepth 100000
set_option linter.unusedVariables false
namespace Go.Abs.Label

theorem run_start (rs : List (List Int × Int)) {b : Nat} (hb : b < 1024) : RunAt rs b (b, []) where
  lt := hb
  sub := le_refl_sub b
  least := fun d _ h => h
  rng := fun i hi => absurd hi (by simp)
  cnt := Nat.zero_le _
  back := fun word N kept _ hk => by
    show goS rs word (kept.reverse.reverse) b = 0
    rw [List.reverse_reverse]
    exact hk b (le_refl_sub b) (fun i _ h => h)
theorem run_all {w : Int} {rs : List (List Int × Int)} (hg : Gd w rs) {b : Nat} (hb : b < 1024) : RunAt rs b (runOf rs b) ∧ (runOf rs b).1 = clo w rs b := by
  obtain ⟨hw1, hw2, _⟩ := guild_spec hg
  obtain ⟨h1, h2⟩ := runS_run (gd_then hg) (fun r hr => bitsL_lt (gd_if hg hr).2) hb 11 (b, []) (run_start rs hb)
  have h1 : RunAt rs b (runOf rs b) := h1
  have h2 : ∀ r ∈ rs, grantR (runOf rs b).1 r = false := h2 (by simp)
  have hc : ClosedR rs (runOf rs b).1 := fun r hr h0 hs => by
    have := h2 r hr
    unfold grantR at this
    rw [decide_eq_true h0, hs] at this
    simpa using this
  exact ⟨h1, sub_antisymm (h1.least _ (clo_closed (by omega) (gd_w hg) b) (clo_sub _ _ _)) (clo_least hc h1.sub)⟩

/-- Whether a word follows, or a label is banned. -/
def isS (w : Int) (rs : List (List Int × Int)) (b : Nat) (word : Int) : Bool := if 0 ≤ word then (clo w rs b).testBit word.toNat else banned w rs b
theorem ban3_nat (c : Nat) (r : List Int × Int) : ban3 (c : Int) r = banR c r := by
  unfold ban3 banR hasR
  rw [Int.toNat_natCast]
theorem has_is {w : Int} {rs : List (List Int × Int)} (hg : Gd w rs) {b : Nat} (hb : b < 1024) (word : Int) : hasSteps rs (b : Int) word = isS w rs b word := by
  obtain ⟨h1, h2⟩ := run_all hg hb
  unfold hasSteps isS
  rw [Int.toNat_natCast, h2]
  split
  · rfl
  · have := indexOf_ge (ban3 ((clo w rs b : Nat) : Int)) rs
    have e : (!decide (indexOf (ban3 ((clo w rs b : Nat) : Int)) rs < 0)) = decide (indexOf (ban3 ((clo w rs b : Nat) : Int)) rs ≥ 0) := by
      rw [Bool.eq_iff_iff]
      simp
    rw [e, this]
    unfold banned
    exact congrArg rs.any (funext fun r => ban3_nat _ r)

theorem backS_mem (rs : List (List Int × Int)) (b : Nat) : ∀ (L : List Int) (s : Nat × List Int), ∀ j ∈ (L.foldl (backS rs b) s).2, j ∈ s.2 ∨ j ∈ L
  | [], s, j, h => .inl h
  | i :: L, s, j, h => by
    rw [List.foldl_cons] at h
    rcases backS_mem rs b L _ j h with h | h
    · unfold backS at h
      split at h
      · rcases List.mem_append.1 h with h | h
        · exact .inl h
        · exact .inr (by rw [List.mem_singleton.1 h]; simp)
      · exact .inl h
    · exact .inr (List.mem_cons_of_mem _ h)
theorem backOf_mem {rs : List (List Int × Int)} {b need : Nat} {out : List Int} {j : Int} (h : j ∈ backOf rs b need out) : j ∈ out := by
  unfold backOf at h
  rcases backS_mem rs b _ _ j (List.mem_reverse.1 h) with h | h
  · simp at h
  · exact List.mem_reverse.1 h

theorem raw_ok {w : Int} {rs : List (List Int × Int)} (hg : Gd w rs) {b : Nat} (hb : b < 1024) {word : Int} (h : hasSteps rs (b : Int) word = true) : goS rs word (rawS rs (b : Int) word) b = 0 ∧ ∀ i ∈ rawS rs (b : Int) word, 0 ≤ i ∧ i < rs.length := by
  obtain ⟨h1, h2⟩ := run_all hg hb
  unfold hasSteps at h
  unfold rawS
  rw [Int.toNat_natCast] at h ⊢
  by_cases hw : 0 ≤ word
  · rw [if_pos hw] at h ⊢
    refine ⟨?_, fun i hi => h1.rng i (backOf_mem hi)⟩
    refine h1.back word (2 ^ word.toNat) [] (.inr trivial) (fun t _ ht => ?_)
    have := ht word.toNat (by rw [Nat.testBit_two_pow]; simp) h
    unfold goS
    rw [if_neg (by rw [this]; simp; exact hw)]
  · rw [if_neg hw] at h ⊢
    have hi : ¬ indexOf (ban3 ((runOf rs b).1 : Int)) rs < 0 := by simpa using h
    obtain ⟨g0, g1⟩ := indexOf_range _ _ hi
    have hsat := indexOf_sat _ rs g1 g0
    rw [← rule_at g0 g1] at hsat
    generalize indexOf (ban3 ((runOf rs b).1 : Int)) rs = k at hi g0 g1 hsat ⊢
    rw [ban3_nat] at hsat
    unfold banR at hsat
    rw [Bool.and_eq_true, decide_eq_true_eq] at hsat
    have hm : ruleAt rs k ∈ rs := by rw [rule_at g0 g1]; exact List.getElem_mem _
    refine ⟨?_, fun i hi => ?_⟩
    · unfold backOf
      rw [List.reverse_append, List.reverse_singleton, List.singleton_append, List.foldl_cons]
      have e : backS rs b (bitsL (ruleAt rs k).1, []) k = (andNot (bitsL (ruleAt rs k).1 ||| bitsL (ruleAt rs k).1) b, [k].reverse) := by
        unfold backS
        rw [if_pos (.inl hsat.1)]; rfl
      rw [e]
      refine h1.back word _ [k] (.inr trivial) (fun t ht hN => ?_)
      have hs : subB (bitsL (ruleAt rs k).1) t = true := sub_iff.2 fun j hj => by
        have hjc := sub_iff.1 hsat.2 j hj
        have hj10 := test_lt h1.lt hjc
        by_cases h3 : b.testBit j = true
        · exact sub_iff.1 ht j h3
        · exact hN j (by rw [notI_test hj10, Nat.testBit_or, hj]; simpa using h3) hjc
      unfold goS
      rw [hs, if_neg (fun h => h.elim (fun h => h.2.elim hw (fun h => h rfl)) (fun h => nomatch h)), if_pos hsat.1]
    · rcases List.mem_append.1 (backOf_mem hi) with hi | hi
      · exact h1.rng i hi
      · rw [List.mem_singleton.1 hi]; omega

theorem less_keeps {w : Int} {rs : List (List Int × Int)} {b word : Int} : ∀ (n : Nat) (s : List Int), s.length < n → chkS w rs (listI b) word s = 0 →
    chkS w rs (listI b) word (lessS w rs b word n s) = 0 ∧ ∀ j < (lessS w rs b word n s).length, chkS w rs (listI b) word ((lessS w rs b word n s).eraseIdx j) ≠ 0
  | 0, s, h, _ => absurd h (Nat.not_lt_zero _)
  | n + 1, s, h, h0 => by
    unfold lessS
    split
    · rename_i hi
      refine ⟨h0, fun j hj hc => ?_⟩
      have := indexOf_ge (fun i : Nat => decide (chkS w rs (listI b) word (s.eraseIdx i) = 0)) (List.range s.length)
      have h2 : (List.range s.length).any (fun i : Nat => decide (chkS w rs (listI b) word (s.eraseIdx i) = 0)) = true := List.any_eq_true.2 ⟨j, List.mem_range.2 hj, decide_eq_true hc⟩
      rw [h2, decide_eq_true_eq] at this
      unfold lessAt at hi
      omega
    · rename_i hi
      have hi0 := hi
      unfold lessAt at hi
      obtain ⟨g0, g1⟩ := indexOf_range _ _ hi
      have hsat := of_decide_eq_true (indexOf_sat _ _ g1 g0)
      simp only [List.getElem_range] at hsat
      have g2 : (lessAt w rs b word s).toNat < s.length := by unfold lessAt; simpa using g1
      refine less_keeps n _ ?_ hsat
      show (s.eraseIdx (lessAt w rs b word s).toNat).length < n
      rw [List.length_eraseIdx, if_pos g2]
      omega

theorem label_err {w : Int} {rs : List (List Int × Int)} {l : List Int} (hg : Gd w rs) (hl : isList l w = true) : labelErr w rs l = 0 := by
  unfold labelErr
  rw [if_neg (by simpa using hg), if_pos hl]
theorem listI_bits {w : Int} {l : List Int} (hw : 0 ≤ w ∧ w ≤ 10) (hl : isList l w = true) : listI (bitsI l) = l := by
  unfold bitsI
  rw [listI_w hw (bits_ltw hl), listed_bits hl]
theorem steps_ok {w : Int} {rs : List (List Int × Int)} {l : List Int} {word : Int} (hg : Gd w rs) (hl : isList l w = true) (hx : -1 ≤ word ∧ word < w) :
    hasSteps rs (bitsI l) word = isS w rs (bitsL l) word ∧ stepErr w rs l word = (if isS w rs (bitsL l) word then 0 else 5) ∧
    (isS w rs (bitsL l) word = true → chkS w rs l word (stepsL w rs l word) = 0 ∧ needS w rs l word (stepsL w rs l word) = true) ∧ (isS w rs (bitsL l) word = false → stepsL w rs l word = []) := by
  obtain ⟨hw1, hw2, _⟩ := guild_spec hg
  have hb : bitsL l < 1024 := Nat.lt_of_lt_of_le (bits_ltw hl) (pow10 hw2)
  have h1 : hasSteps rs (bitsI l) word = isS w rs (bitsL l) word := has_is hg hb word
  have ho : outOf (-1) (w - 1) word = false := by unfold outOf; exact decide_eq_false (by omega)
  have h0 := label_err hg hl
  have h2 : stepErr w rs l word = (if isS w rs (bitsL l) word then 0 else 5) := by
    unfold stepErr
    rw [if_neg (by omega), ho, h1]; rfl
  refine ⟨h1, h2, fun h => ?_, fun h => ?_⟩
  · rw [h, if_pos rfl] at h2
    have hI := listI_bits ⟨by omega, hw2⟩ hl
    have e : stepsL w rs l word = lessL w rs (bitsI l) word (rawS rs (bitsI l) word) := by
      unfold stepsL stepL
      rw [h2, if_pos rfl, h1, h, if_pos rfl]
    have hr : goS rs word (rawS rs (bitsI l) word) (bitsL l) = 0 ∧ ∀ i ∈ rawS rs (bitsI l) word, 0 ≤ i ∧ i < rs.length := raw_ok hg hb (word := word) (by rw [← h1] at h; exact h)
    have hc : chkS w rs (listI (bitsI l)) word (rawS rs (bitsI l) word) = 0 := by
      rw [hI, chkS_of h0 hx hr.2]; exact hr.1
    obtain ⟨k1, k2⟩ := less_keeps (rawS rs (bitsI l) word).length.succ _ (Nat.lt_succ_self _) hc
    have k1 : chkS w rs (listI (bitsI l)) word (lessL w rs (bitsI l) word (rawS rs (bitsI l) word)) = 0 := k1
    have k2 : ∀ j < (lessL w rs (bitsI l) word (rawS rs (bitsI l) word)).length, chkS w rs (listI (bitsI l)) word ((lessL w rs (bitsI l) word (rawS rs (bitsI l) word)).eraseIdx j) ≠ 0 := k2
    rw [← e, hI] at k1 k2
    refine ⟨k1, ?_⟩
    unfold needS
    rw [decide_eq_true k1, Bool.true_and, List.all_eq_true]
    intro j hj
    rw [decide_eq_false (k2 j (List.mem_range.1 hj))]; rfl
  · rw [h, if_neg (by simp)] at h2
    unfold stepsL
    rw [h2]; rfl
theorem steps_len (w : Int) (rs : List (List Int × Int)) (l : List Int) (word : Int) : (stepsL w rs l word).length ≤ 12 := by
  unfold stepsL
  split
  · exact stepL_len _ _ _ _
  · exact Nat.zero_le _
theorem given_sound {w : Int} {rs : List (List Int × Int)} {l : List Int} {word : Int} {s : List Int} (h : chkS w rs l word s = 0) : isS w rs (bitsL l) word = true := by
  obtain ⟨h0, h1, h2, h3⟩ := chkS_ok h
  obtain ⟨hg, hl⟩ := label_ok h0
  obtain ⟨k1, k2⟩ := goS_sound hg (bitsL l) s (bitsL l) h2 (clo_sub _ _ _) h3
  unfold isS
  split
  · rename_i hw; exact k2 hw
  · rename_i hw; exact k1 (by omega)
end Go.Abs.Label
end

section
/- The label's statements: reasons and keys; what is taken, how many are closed, idle rules; steps; closed labels. -/
open Go.Proofs
set_option maxRecDepth 100000
set_option linter.unusedVariables false
namespace Go.Abs.Label

theorem shortS {l : List (List Int)} (h1 : l.length ≤ 1024) (h2 : ∀ y ∈ l, y.length ≤ 10) : (sortLL l).length ≤ 1024 ∧ ∀ y ∈ sortLL l, y.length ≤ 10 :=
  ⟨by rw [(sortLL_perm l).length_eq]; exact h1, fun y hy => h2 y ((sortLL_perm l).subset hy)⟩
theorem lists_short {E : List (Nat × Int × Int)} (h : E.length ≤ 1024) : (listsE E).length ≤ 1024 ∧ ∀ y ∈ listsE E, y.length ≤ 10 := by
  refine shortS (by rw [List.length_map]; exact h) (fun y hy => ?_)
  obtain ⟨e, _, rfl⟩ := List.mem_map.1 hy
  exact listI_len _
theorem min_len {G : List Int} (h : G.length ≤ 1024) : (minE G).length ≤ 1024 := by
  unfold minE
  exact Nat.le_trans (List.length_filter_le _ _) (by rw [ents_len]; exact h)
theorem rea_short (w : Int) (rs : List (List Int × Int)) (l : List Int) (x : Int) : (reaL w rs l x).length ≤ 1024 ∧ ∀ y ∈ reaL w rs l x, y.length ≤ 10 := by
  unfold reaL
  split
  · rename_i h
    obtain ⟨hg, hl, _⟩ := wordErr_ok h
    obtain ⟨_, _, hB⟩ := label_isB (label_err hg hl)
    exact lists_short (min_len (goods_ok hB).2.1)
  · simp
theorem key_short (w : Int) (rs : List (List Int × Int)) (l : List Int) : (keyL w rs l).length ≤ 1024 ∧ ∀ y ∈ keyL w rs l, y.length ≤ 10 := by
  unfold keyL
  split
  · rename_i h
    obtain ⟨_, _, hB⟩ := label_isB h
    refine lists_short ?_
    unfold fewE
    exact Nat.le_trans (List.length_filter_le _ _) (min_len (goods_ok hB).2.1)
  · simp
theorem p22 {a b : List (List Int)} (ha : a.length ≤ 1024 ∧ ∀ y ∈ a, y.length ≤ 10) (hb : b.length ≤ 1024 ∧ ∀ y ∈ b, y.length ≤ 10) : v22.p (a, b, ()) :=
  ⟨(show a.length ≤ 2000 by omega), (show b.length ≤ 2000 by omega), fun y hy => Nat.le_trans (ha.2 y hy) (by decide), fun y hy => Nat.le_trans (hb.2 y hy) (by decide)⟩
theorem p17 {a b : List Int} (ha : a.length ≤ 1000) (hb : b.length ≤ 1000) : v17.p (a, b, ()) :=
  ⟨(show a.length ≤ 1152921504606846976 by omega), (show b.length ≤ 1152921504606846976 by omega)⟩

theorem k4 (hG : Good Tryz.prog (envOf [(8, mkC [v8]), (9, mkC [v9]), (10, mkC [v10]), (18, mkC [v18]), (19, mkC [v19]), (20, mkC [v20]), (21, mkC [v21]), (22, mkC [v22])])) : v4.Kept Tryz.prog 4 := by
  rintro ⟨w, rs, l, x, ⟨⟩⟩ hpre k hk
  change Int at w
  change List (List Int × Int) at rs
  change List Int at l
  change Int at x
  refine aspec hmix hG Tryz.func4 tx4 (Eq.mpr (eq4 w rs l x k) ?_)
  replace hk : k (rBo true) [] := hk
  unfold vc4
  refine ⟨trivial, ?_⟩
  rw [br_bf]
  refine ⟨fun hs => ⟨trivial, br_intro (fun _ => ⟨trivial, hk⟩) (fun h => ?_)⟩, fun _ => ⟨trivial, hk⟩⟩
  have hl := long_no h
  have hl2 : l.length ≤ 1000 := by omega
  have hr := rea_short w rs l x
  have hq := key_short w rs l
  rw [← reaL_eq, ← keyL_eq]
  exact ⟨⟨hs, hl2⟩, ⟨hs, hl2⟩, ⟨hs, hl2⟩, ⟨hs, hl2⟩, p22 hr hr, br_yes (eqLLt _) (br_yes (eqbt _) ⟨p22 hq hq, br_yes (eqLLt _) (br_yes (eqbt _) ⟨trivial, hk⟩)⟩)⟩

theorem bestT_len {n : Nat} {L : List (List Int)} (h : ∀ y ∈ L, y.length ≤ n) : (bestT L).length ≤ n := by
  cases L with
  | nil => exact Nat.zero_le _
  | cons x L =>
    obtain ⟨c1, _, _⟩ := best_fold (bet := betT) order_betL L x
    show (L.foldl (fun b y => if betT y b then y else b) x).length ≤ n
    rcases c1 with e | e
    · rw [e]; exact h x (List.mem_cons_self ..)
    · exact h _ (List.mem_cons_of_mem _ e)
theorem take_len (w : Int) (rs : List (List Int × Int)) (l : List Int) : (takeL w rs l).length ≤ 10 := by
  unfold takeL
  split
  · refine bestT_len (fun y hy => ?_)
    obtain ⟨i, _, rfl⟩ := List.mem_map.1 hy
    exact listed_len _ 10
  · exact Nat.zero_le _

theorem k5 (hG : Good Tryz.prog (envOf [(8, mkC [v8]), (9, mkC [v9]), (10, mkC [v10]), (23, mkC [v23]), (24, mkC [v24]), (25, mkC [v25]), (26, mkC [v26]), (27, mkC [v27]), (28, mkC [v28]), (17, mkC [v17])])) : v5.Kept Tryz.prog 5 := by
  rintro ⟨w, rs, l, x, ⟨⟩⟩ hpre k hk
  change Int at w
  change List (List Int × Int) at rs
  change List Int at l
  change Int at x
  refine aspec hmix hG Tryz.func5 tx5 (Eq.mpr (eq5 w rs l x k) ?_)
  replace hk : k (rBo true) [] := hk
  unfold vc5
  refine ⟨trivial, ?_⟩
  rw [br_bf]
  refine ⟨fun hs => ⟨trivial, br_intro (fun _ => ⟨trivial, hk⟩) (fun h => ?_)⟩, fun _ => ⟨trivial, hk⟩⟩
  have hl := long_no h
  have hl2 : l.length ≤ 1000 := by omega
  have ht := take_len w rs l
  rw [← takeL_eq, ← idleB_eq]
  exact ⟨⟨hs, hl2⟩, ⟨hs, hl2⟩, hs, hs, hs, hs, p17 (by omega) (by omega), br_yes (eqLt _) (br_yes (eqbt _) (br_yes (eqbt _) (br_yes (eqbt _) (br_yes (eqBt _) (br_yes (eqbt _) ⟨trivial, hk⟩)))))⟩

theorem fine_gd {w : Int} {rs : List (List Int × Int)} (h : fine w rs = true) : Gd w rs := by
  unfold fine geIs at h
  rw [Bool.and_eq_true] at h
  exact of_decide_eq_true h.2
theorem listedI_list (bits : Int) {w : Int} (h : 0 ≤ w) : isList (listedI bits w) w = true := isList_listed _ h
theorem bits_listedI {w : Int} {n : Nat} (hn : n < 2 ^ w.toNat) : bitsI (listedI (n : Int) w) = (n : Int) := by
  unfold bitsI listedI
  rw [Int.toNat_natCast, bits_listed hn]
theorem land_w {a b : Nat} (ha : a < 1024) (hb : b < 1024) : bitsA .and .i64 (a : Int) (b : Int) = ((a &&& b : Nat) : Int) := land_nat a b (by omega) (by omega)
theorem bne_self (a : Int) : ((a != a) == false) = true := by simp

theorem k7 (hG : Good Tryz.prog (envOf [(29, mkC [v29]), (10, mkC [v10]), (30, mkC [v30]), (31, mkC [v31]), (35, mkC [v35]), (25, mkC [v25]), (36, mkC [v36])])) : v7.Kept Tryz.prog 7 := by
  rintro ⟨w, rs, a, b, ⟨⟩⟩ hpre k hk
  change Int at w
  change List (List Int × Int) at rs
  change Int at a b
  refine aspec hmix hG Tryz.func7 tx7 (Eq.mpr (eq7 w rs a b k) ?_)
  replace hk : k (rBo true) [] := hk
  unfold vc7
  obtain ⟨ha, hb⟩ := hpre
  have ha : 0 ≤ a ∧ a ≤ 65535 := ha
  have hb : 0 ≤ b ∧ b ≤ 65535 := hb
  refine ⟨trivial, ?_⟩
  rw [br_not]
  refine ⟨fun h => ⟨trivial, hk⟩, fun h => ?_⟩
  have hg := fine_gd h
  obtain ⟨hw1, hw2, hrl, _⟩ := guild_spec hg
  have hw : 0 ≤ w ∧ w ≤ 10 := ⟨by omega, hw2⟩
  have hp := pow10 hw2
  have hla := listedI_list a hw.1
  have hlb := listedI_list b hw.1
  have hA := bits_ltw hla
  have hB := bits_ltw hlb
  have hcA := clo_ltw hg hA
  have hcB := clo_ltw hg hB
  have h30 : ∀ n : Int, 0 ≤ n ∧ n ≤ 65535 → v30.p (w, rs, n, ()) := fun n hn => ⟨hg, hn.1, (show n < 65536 by omega)⟩
  have h35 : ∀ n : Nat, n < 2 ^ w.toNat → v35.p ((n : Int), w, ()) := fun n hn => ⟨(show (0 : Int) ≤ (n : Int) by omega), (show (n : Int) < 65536 by omega), (show 0 ≤ w by omega), (show w ≤ 40 by omega)⟩
  have eA : fromI w rs (bitsI (listedI a w)) = ((clo w rs (bitsL (listedI a w)) : Nat) : Int) := fromI_nat _ _ _
  have eB : fromI w rs (bitsI (listedI b w)) = ((clo w rs (bitsL (listedI b w)) : Nat) : Int) := fromI_nat _ _ _
  have fA : banI w rs (bitsI (listedI a w)) = banned w rs (bitsL (listedI a w)) := banI_nat _ _ _
  rw [eA, eB, fA, land_w (by omega) (by omega)]
  generalize bitsL (listedI a w) = A at hA hcA ⊢
  generalize bitsL (listedI b w) = B at hB hcB ⊢
  have hAB : clo w rs A &&& clo w rs B < 2 ^ w.toNat := Nat.lt_of_le_of_lt Nat.and_le_left hcA
  rw [bits_listedI hcA, bits_listedI hAB, fromI_nat, fromI_nat, banI_nat, clo_clo hg]
  have e1 : clo w rs (clo w rs A &&& clo w rs B) = clo w rs A &&& clo w rs B := by
    refine sub_antisymm (sub_iff.2 fun i hi => ?_) (clo_sub _ _ _)
    have s1 : subB (clo w rs A &&& clo w rs B) (clo w rs A) = true := sub_iff.2 fun j hj => by rw [Nat.testBit_and, Bool.and_eq_true] at hj; exact hj.1
    have s2 : subB (clo w rs A &&& clo w rs B) (clo w rs B) = true := sub_iff.2 fun j hj => by rw [Nat.testBit_and, Bool.and_eq_true] at hj; exact hj.2
    rw [Nat.testBit_and, sub_iff.1 (clo_into hg s1) i hi, sub_iff.1 (clo_into hg s2) i hi]; rfl
  have e2 : banned w rs (clo w rs A) = banned w rs A := by
    unfold banned
    rw [clo_clo hg]
  rw [e1, e2]
  refine ⟨h30 a ha, ⟨hg, hla⟩, h30 b hb, ⟨hg, hlb⟩, h35 _ hcA, ⟨hg, listedI_list _ hw.1⟩, h35 _ hAB, ⟨hg, listedI_list _ hw.1⟩, gd_small hg, ?_⟩
  refine br_yes (bne_self _) (br_yes (by simp) (br_yes (bne_self _) ?_))
  have hg0 : guildErr w rs = 0 := hg
  rw [hg0]
  refine br_no (by decide) ?_
  have hk : k (.bool true) [] := hk
  have ec : closL w rs = closN w rs := by unfold closL; rw [if_pos hg0]
  rw [ec]
  clear hA hB hcA hcB hAB e1 e2 hla hlb eA eB fA
  obtain ⟨W, rfl⟩ := Int.eq_ofNat_of_zero_le hw.1
  obtain ⟨hp1, hp2⟩ := pow_w (show W ≤ 10 by omega)
  refine Loop.upto (fun i => (closN W rs, (((List.range i).filter (fun i : Nat => clsI W rs (i : Int))).length : Int), (i : Int), (W : Int), rs, ())) (fun i => True) (2 ^ W) rfl trivial ?_ ?_
  · intro i K hi _ hK
    have hK := hK trivial
    dsimp only
    rw [hp1, br_decide]
    refine ⟨by omega, fun _ => ?_, fun h => absurd (show (i : Int) < ((2 ^ W : Nat) : Int) by omega) h⟩
    have hl := filter_len (p := fun i : Nat => clsI W rs (i : Int)) i
    rw [range_filter] at hK
    have hB : isB (i : Int) := ⟨by omega, by omega⟩
    refine ⟨⟨hg, hB⟩, br_intro (fun h => ⟨fits64 (by omega) (by omega), fits64 (by omega) (by omega), ?_⟩) (fun h => ⟨fits64 (by omega) (by omega), ?_⟩)⟩
    · rw [if_pos h, List.length_append] at hK; exact hK
    · rw [if_neg (by simp [h]), List.append_nil] at hK; exact hK
  · intro K _
    dsimp only
    rw [hp1, br_decide]
    refine ⟨by omega, fun h => absurd h (by omega), fun _ => br_yes ?_ ⟨trivial, hk⟩⟩
    unfold closN
    rw [Int.toNat_natCast]
    simp

theorem br_false' (b : Bool) (p q : Prop) : br ((Bool.not b) == false) p q ↔ (b = true → p) ∧ (b = false → q) := by
  rw [br_bf]
  cases b <;> simp
theorem k6 (hG : Good Tryz.prog (envOf [(29, mkC [v29]), (9, mkC [v9]), (10, mkC [v10]), (30, mkC [v30]), (31, mkC [v31]), (32, mkC [v32]), (33, mkC [v33]), (34, mkC [v34])])) : v6.Kept Tryz.prog 6 := by
  rintro ⟨w, rs, bits, num, s, ⟨⟩⟩ hpre k hk
  change Int at w
  change List (List Int × Int) at rs
  change Int at bits num
  change List Int at s
  refine aspec hmix hG Tryz.func6 tx6 (Eq.mpr (eq6 w rs bits num s k) ?_)
  replace hk : k (rBo true) [] := hk
  unfold vc6
  obtain ⟨hbt, hnm⟩ := hpre
  have hbt : 0 ≤ bits ∧ bits ≤ 65535 := hbt
  have hnm : 0 ≤ num ∧ num ≤ 255 := hnm
  refine ⟨trivial, ?_⟩
  rw [br_false']
  refine ⟨fun h => ?_, fun h => ⟨trivial, hk⟩⟩
  refine ⟨trivial, br_intro (fun _ => ⟨trivial, hk⟩) (fun hlg => ?_)⟩
  have hsl := long_no hlg
  have hg := fine_gd h
  obtain ⟨hw1, hw2, hrl, _⟩ := guild_spec hg
  have hw : 0 ≤ w ∧ w ≤ 10 := ⟨by omega, hw2⟩
  have hp := pow10 hw2
  have hl := listedI_list bits hw.1
  have hlen := isList_len hl
  have hmod : 0 ≤ num % (w + 1) ∧ num % (w + 1) < w + 1 := ⟨Int.emod_nonneg _ (by omega), Int.emod_lt_of_pos _ (by omega)⟩
  have hf : fitsK .i64 (num % (w + 1) - 1) := fits64 (by omega) (by omega)
  have hx : -1 ≤ num % (w + 1) - 1 ∧ num % (w + 1) - 1 < w := ⟨by omega, by omega⟩
  have h30 : v30.p (w, rs, bits, ()) := ⟨hg, hbt.1, (show bits < 65536 by omega)⟩
  obtain ⟨x, hxe⟩ : ∃ x, HMod.hMod num (w + (1 : Int)) - (1 : Int) = x := ⟨_, rfl⟩
  have hxe2 : num % (w + 1) - 1 = x := hxe
  rw [hxe2] at hf hx
  simp only [hxe]
  obtain ⟨l, hle⟩ : ∃ l, listedI bits w = l := ⟨_, rfl⟩
  rw [hle] at hl hlen
  simp only [hle]
  obtain ⟨s1, s2, s3, s4⟩ := steps_ok hg hl hx
  have hbl := bits_ltw hl
  have hcl := clo_ltw hg hbl
  have hS := given_sound (w := w) (rs := rs) (l := l) (word := x) (s := s)
  have hsn := steps_len w rs l x
  have sm := gd_small hg
  have eb : banI w rs (bitsI l) = banned w rs (bitsL l) := banI_nat _ _ _
  have ef : fromI w rs (bitsI l) = ((clo w rs (bitsL l) : Nat) : Int) := fromI_nat _ _ _
  have hlo : longL (stepsL w rs l x) = false := by unfold longL; exact decide_eq_false (by omega)
  have h33 : ∀ t : List Int, t.length ≤ 20 → v33.p (w, rs, l, x, t, ()) := fun t ht => ⟨sm, (show l.length ≤ 1000 by omega), (show t.length ≤ 1000 by omega)⟩
  have h34 : v34.p (w, rs, l, x, stepsL w rs l x, ()) := ⟨sm, (show l.length ≤ 1000 by omega), (show (stepsL w rs l x).length ≤ 1000 by omega)⟩
  refine ⟨h30, fits64 (by omega) (by omega), fits64 (by omega) (by omega), ⟨hnm.1, by omega⟩, hf, ⟨hg, hl⟩, ⟨sm, (show l.length ≤ 1000 by omega)⟩, h33 s hsl, trivial, br_no hlo ?_⟩
  have hk : k (.bool true) [] := hk
  have good : isS w rs (bitsL l) x = true → br ((stepErr w rs l x == 0) == true) (v33.p (w, rs, l, x, stepsL w rs l x, ()) ∧ br ((chkS w rs l x (stepsL w rs l x) == 0) == true) (v34.p (w, rs, l, x, stepsL w rs l x, ()) ∧ br ((needS w rs l x (stepsL w rs l x)) == true) (v10.p () ∧ k (.bool true) []) (k (.bool false) [])) (k (.bool false) [])) (k (.bool false) []) := fun h => by
    obtain ⟨q1, q2⟩ := s3 h
    rw [h, if_pos rfl] at s2
    rw [s2, q1, q2]
    exact br_yes rfl ⟨h33 _ (by omega), br_yes rfl ⟨h34, br_yes rfl ⟨trivial, hk⟩⟩⟩
  have none : isS w rs (bitsL l) x = false → br ((stepErr w rs l x == 5) == true) (br (((((stepsL w rs l x).length : Nat) : Int) == 0) == true) (v10.p () ∧ k (.bool true) []) (k (.bool false) [])) (k (.bool false) []) := fun h => by
    rw [h, if_neg (by simp)] at s2
    rw [s2, s4 h]
    exact br_yes rfl (br_yes rfl ⟨trivial, hk⟩)
  have chk : (chkS w rs l x s == 0) = true → isS w rs (bitsL l) x = true := fun h => hS (eq_of_beq h)
  rw [br_true]
  refine ⟨fun hneg => ?_, fun hneg => ?_⟩
  · have eS : isS w rs (bitsL l) x = banned w rs (bitsL l) := by unfold isS; rw [if_neg (by omega)]
    rw [eS] at chk good none
    rw [eb, br_bf]
    refine ⟨fun hb => ?_, fun hb => ?_⟩
    · rw [br_true]
      refine ⟨fun h => absurd h (by omega), fun _ => ?_⟩
      rw [br_bt]
      exact ⟨fun h => absurd (chk h) (by rw [hb]; simp), fun _ => none hb⟩
    · rw [br_bt]
      exact ⟨fun _ => good hb, fun _ => good hb⟩
  · have hx0 : 0 ≤ x := by omega
    have eS : isS w rs (bitsL l) x = (clo w rs (bitsL l)).testBit x.toNat := by unfold isS; rw [if_pos hx0]
    have eit : (ite (x > 0) x 0) = ((x.toNat : Nat) : Int) := by
      split <;> omega
    have et : (bitsA .and .i64 (shrA .i64 (fromI w rs (bitsI l)) (ite (x > 0) x 0)) 1 == 1) = (clo w rs (bitsL l)).testBit x.toNat := by
      rw [ef, eit]
      exact bit_test _ _ (by omega)
    have hit : (0 : Int) ≤ (ite (x > 0) x 0) := by omega
    rw [eS] at chk good none
    rw [et]
    rw [br_true]
    refine ⟨fun _ => ⟨hit, ?_⟩, fun h => absurd hx0 (by omega)⟩
    rw [br_bt]
    cases hb : (clo w rs (bitsL l)).testBit x.toNat with
    | false =>
      refine ⟨fun h => absurd (chk h) (by rw [hb]; simp), fun _ => br_yes rfl (none hb)⟩
    | true =>
      exact ⟨fun _ => br_no rfl (br_no rfl (good hb)), fun _ => br_no rfl (good hb)⟩
end Go.Abs.Label
end

