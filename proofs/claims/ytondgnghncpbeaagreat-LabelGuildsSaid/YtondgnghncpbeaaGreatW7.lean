/- Part 7 of the road to this seat's statements: lemmas about a small interpreter over the model's code, and about the functions that it is used on. No condition of its own. -/
import Derived.Test.YtondgnghncpbeaaGreatProg
import Derived.Shelf.SlLaysE
import Derived.Shelf.Lays8
import Derived.Shelf.SlicesE.Delete
import Derived.Shelf.SlicesE.Reverse
import Derived.Shelf.Spec.SlicesGrow
import Derived.Test.YtondgnghncpbeaaGreatW6

section
/- Conditions and their equations, printed by a program. -/
open Go.Proofs
set_option maxRecDepth 100000
set_option linter.unusedVariables false
namespace Go.Abs.Label
def vc33 (w : Int) (rs : List (List Int × Int)) (l : List Int) (x : Int) (s : List Int) (k : AVal → List Cont → Prop) : Prop :=
  (Go.Abs.Label.v42.p (w, (rs, (l, ())))) ∧
  br ((Go.Abs.Label.leIs w rs l (6 : Int)))
   ((k (Go.Abs.AVal.int Go.IntKind.i64 (6 : Int)) []))
   (br ((Go.Abs.Label.leIs w rs l (2 : Int)))
    ((k (Go.Abs.AVal.int Go.IntKind.i64 (2 : Int)) []))
    (br ((Go.Abs.Label.leIs w rs l (3 : Int)))
     ((k (Go.Abs.AVal.int Go.IntKind.i64 (3 : Int)) []))
     ((Go.Abs.fitsK Go.IntKind.i64 (w - (1 : Int))) ∧
     (Go.Abs.Label.v50.p ((-(1 : Int) : Int), ((w - (1 : Int)), ((x :: ([] : List Int)), ())))) ∧
     br ((Bool.not (Bool.not (Go.Abs.Label.anyOut (-(1 : Int) : Int) (w - (1 : Int)) (x :: ([] : List Int))))))
      ((k (Go.Abs.AVal.int Go.IntKind.i64 (3 : Int)) []))
      ((Go.Abs.fitsK Go.IntKind.i64 ((((List.length rs) : Nat) : Int) - (1 : Int))) ∧
      (Go.Abs.Label.v50.p ((0 : Int), (((((List.length rs) : Nat) : Int) - (1 : Int)), (s, ())))) ∧
      br ((Bool.not (Bool.not (Go.Abs.Label.anyOut (0 : Int) ((((List.length rs) : Nat) : Int) - (1 : Int)) s))))
       ((k (Go.Abs.AVal.int Go.IntKind.i64 (2 : Int)) []))
       (Go.Abs.Loop (σ := (Int × ((List Int) × (Int × ((List ((List Int) × Int)) × ((List Int) × (Int × (Int × (Int × Unit))))))))) (fun K6 x6 =>
         br ((decide (x6.2.2.2.2.2.2.1 < x6.2.2.2.2.2.1)))
          (∃ h8 : (((0 : Int) ≤ x6.2.2.2.2.2.2.1) ∧ ((Int.toNat x6.2.2.2.2.2.2.1) < (List.length x6.2.2.2.2.1))),
          ∃ h9 : (((0 : Int) ≤ (x6.2.2.2.2.1[(Int.toNat x6.2.2.2.2.2.2.1)]'h8.2)) ∧ ((Int.toNat (x6.2.2.2.2.1[(Int.toNat x6.2.2.2.2.2.2.1)]'h8.2)) < (List.length x6.2.2.2.1))),
          br (((decide ((x6.2.2.2.1[(Int.toNat (x6.2.2.2.2.1[(Int.toNat x6.2.2.2.2.2.2.1)]'h8.2))]'h9.2).2 < (0 : Int))) == Bool.true))
           (br (((decide (x6.1 ≥ (0 : Int))) == Bool.false))
            ((Go.Abs.fitsK Go.IntKind.i64 ((((List.length x6.2.1) : Nat) : Int) - (1 : Int))) ∧
            br ((decide (x6.2.2.2.2.2.2.1 < ((((List.length x6.2.1) : Nat) : Int) - (1 : Int)))))
             (br ((decide (x6.2.2.2.2.2.2.1 < ((((List.length x6.2.1) : Nat) : Int) - (1 : Int)))))
              ((k (Go.Abs.AVal.int Go.IntKind.i64 (16 : Int)) []))
              (br ((decide ((x6.2.2.2.1[(Int.toNat (x6.2.2.2.2.1[(Int.toNat x6.2.2.2.2.2.2.1)]'h8.2))]'h9.2).2 < (0 : Int))))
               ((k (Go.Abs.AVal.int Go.IntKind.i64 (0 : Int)) []))
               ((Go.Abs.Label.v57.p (x6.2.2.2.2.2.2.2.1, ((x6.2.2.2.1[(Int.toNat (x6.2.2.2.2.1[(Int.toNat x6.2.2.2.2.2.2.1)]'h8.2))]'h9.2).2, ()))) ∧
               (Go.Abs.fitsK Go.IntKind.i64 (x6.2.2.2.2.2.2.1 + (1 : Int))) ∧
               (K6 (x6.1, (x6.2.1, (x6.2.2.1, (x6.2.2.2.1, (x6.2.2.2.2.1, (x6.2.2.2.2.2.1, ((x6.2.2.2.2.2.2.1 + (1 : Int)), ((Go.Abs.Label.andI x6.2.2.2.2.2.2.2.1 (x6.2.2.2.1[(Int.toNat (x6.2.2.2.2.1[(Int.toNat x6.2.2.2.2.2.2.1)]'h8.2))]'h9.2).2), ()))))))))))))
             ((Go.Abs.Label.v73.p ((x6.2.2.2.1[(Int.toNat (x6.2.2.2.2.1[(Int.toNat x6.2.2.2.2.2.2.1)]'h8.2))]'h9.2).1, ())) ∧
             (Go.Abs.Label.v59.p (x6.2.2.2.2.2.2.2.1, ((Go.Abs.Label.bitsI (x6.2.2.2.1[(Int.toNat (x6.2.2.2.2.1[(Int.toNat x6.2.2.2.2.2.2.1)]'h8.2))]'h9.2).1), ()))) ∧
             br ((Bool.not (Go.Abs.Label.hasI x6.2.2.2.2.2.2.2.1 (Go.Abs.Label.bitsI (x6.2.2.2.1[(Int.toNat (x6.2.2.2.2.1[(Int.toNat x6.2.2.2.2.2.2.1)]'h8.2))]'h9.2).1))))
              ((k (Go.Abs.AVal.int Go.IntKind.i64 (16 : Int)) []))
              (br ((decide ((x6.2.2.2.1[(Int.toNat (x6.2.2.2.2.1[(Int.toNat x6.2.2.2.2.2.2.1)]'h8.2))]'h9.2).2 < (0 : Int))))
               ((k (Go.Abs.AVal.int Go.IntKind.i64 (0 : Int)) []))
               ((Go.Abs.Label.v57.p (x6.2.2.2.2.2.2.2.1, ((x6.2.2.2.1[(Int.toNat (x6.2.2.2.2.1[(Int.toNat x6.2.2.2.2.2.2.1)]'h8.2))]'h9.2).2, ()))) ∧
               (Go.Abs.fitsK Go.IntKind.i64 (x6.2.2.2.2.2.2.1 + (1 : Int))) ∧
               (K6 (x6.1, (x6.2.1, (x6.2.2.1, (x6.2.2.2.1, (x6.2.2.2.2.1, (x6.2.2.2.2.2.1, ((x6.2.2.2.2.2.2.1 + (1 : Int)), ((Go.Abs.Label.andI x6.2.2.2.2.2.2.2.1 (x6.2.2.2.1[(Int.toNat (x6.2.2.2.2.1[(Int.toNat x6.2.2.2.2.2.2.1)]'h8.2))]'h9.2).2), ())))))))))))))
            ((k (Go.Abs.AVal.int Go.IntKind.i64 (16 : Int)) [])))
           ((Go.Abs.Label.v73.p ((x6.2.2.2.1[(Int.toNat (x6.2.2.2.2.1[(Int.toNat x6.2.2.2.2.2.2.1)]'h8.2))]'h9.2).1, ())) ∧
           (Go.Abs.Label.v59.p (x6.2.2.2.2.2.2.2.1, ((Go.Abs.Label.bitsI (x6.2.2.2.1[(Int.toNat (x6.2.2.2.2.1[(Int.toNat x6.2.2.2.2.2.2.1)]'h8.2))]'h9.2).1), ()))) ∧
           br ((Bool.not (Go.Abs.Label.hasI x6.2.2.2.2.2.2.2.1 (Go.Abs.Label.bitsI (x6.2.2.2.1[(Int.toNat (x6.2.2.2.2.1[(Int.toNat x6.2.2.2.2.2.2.1)]'h8.2))]'h9.2).1))))
            ((k (Go.Abs.AVal.int Go.IntKind.i64 (16 : Int)) []))
            (br ((decide ((x6.2.2.2.1[(Int.toNat (x6.2.2.2.2.1[(Int.toNat x6.2.2.2.2.2.2.1)]'h8.2))]'h9.2).2 < (0 : Int))))
             ((k (Go.Abs.AVal.int Go.IntKind.i64 (0 : Int)) []))
             ((Go.Abs.Label.v57.p (x6.2.2.2.2.2.2.2.1, ((x6.2.2.2.1[(Int.toNat (x6.2.2.2.2.1[(Int.toNat x6.2.2.2.2.2.2.1)]'h8.2))]'h9.2).2, ()))) ∧
             (Go.Abs.fitsK Go.IntKind.i64 (x6.2.2.2.2.2.2.1 + (1 : Int))) ∧
             (K6 (x6.1, (x6.2.1, (x6.2.2.1, (x6.2.2.2.1, (x6.2.2.2.2.1, (x6.2.2.2.2.2.1, ((x6.2.2.2.2.2.2.1 + (1 : Int)), ((Go.Abs.Label.andI x6.2.2.2.2.2.2.2.1 (x6.2.2.2.1[(Int.toNat (x6.2.2.2.2.1[(Int.toNat x6.2.2.2.2.2.2.1)]'h8.2))]'h9.2).2), ())))))))))))))
          (br (((decide (x6.1 < (0 : Int))) == Bool.false))
           ((Go.Abs.Label.v57.p ((0 : Int), (x6.1, ()))) ∧
           (Go.Abs.Label.v59.p (x6.2.2.2.2.2.2.2.1, ((Go.Abs.Label.andI (0 : Int) x6.1), ()))) ∧
           br ((Bool.not (Go.Abs.Label.hasI x6.2.2.2.2.2.2.2.1 (Go.Abs.Label.andI (0 : Int) x6.1))))
            ((k (Go.Abs.AVal.int Go.IntKind.i64 (14 : Int)) []))
            ((k (Go.Abs.AVal.int Go.IntKind.i64 (0 : Int)) [])))
           ((k (Go.Abs.AVal.int Go.IntKind.i64 (14 : Int)) [])))) ((x, (s, (w, (rs, (s, ((((List.length s) : Nat) : Int), ((0 : Int), ((Go.Abs.Label.bitsI l), ()))))))))))))))
theorem eq33 (w : Int) (rs : List (List Int × Int)) (l : List Int) (x : Int) (s : List Int) (k : AVal → List Cont → Prop) : awpF (envOf [(42, mkC [v42]), (50, mkC [v50]), (73, mkC [v73]), (59, mkC [v59]), (57, mkC [v57])]) Tryz.prog kt 33 false Tryz.f33 (v33.args (w, rs, l, x, s, ())) (v33.conts (w, rs, l, x, s, ())) k = vc33 w rs l x s k := by kernel_rfl
theorem tx33 : (Tryz.f33.body.map Code.textsOk).getD true = true := by kernel_rfl

def vc40 (w : Int) (rs : List (List Int × Int)) (l : List Int) (x : Int) (s : List Int) (k : AVal → List Cont → Prop) : Prop :=
  (Go.Abs.Label.v45.p (w, (rs, (l, ())))) ∧
  br (((Go.Abs.Label.labelErr w rs l) != (0 : Int)))
   ((Go.Abs.Label.v45.p (w, (rs, (l, ())))) ∧
   (k (Go.Abs.AVal.int Go.IntKind.i64 (Go.Abs.Label.labelErr w rs l)) []))
   (br (((decide (x < (-(1 : Int) : Int))) == Bool.false))
    (br ((decide (x ≥ w)))
     ((k (Go.Abs.AVal.int Go.IntKind.i64 (3 : Int)) []))
     (Go.Abs.Loop (σ := ((List Int) × (Int × ((List Int) × (Int × (Int × ((List ((List Int) × Int)) × Unit))))))) (fun K6 x6 =>
       br ((decide (x6.2.2.2.1 < (((List.length x6.2.2.1) : Nat) : Int))))
        (∃ h8 : (((0 : Int) ≤ x6.2.2.2.1) ∧ ((Int.toNat x6.2.2.2.1) < (List.length x6.2.2.1))),
        br (((decide ((x6.2.2.1[(Int.toNat x6.2.2.2.1)]'h8.2) < (0 : Int))) == Bool.false))
         (∃ h9 : (((0 : Int) ≤ x6.2.2.2.1) ∧ ((Int.toNat x6.2.2.2.1) < (List.length x6.2.2.1))),
         br ((decide ((x6.2.2.1[(Int.toNat x6.2.2.2.1)]'h9.2) ≥ (((List.length x6.2.2.2.2.2.1) : Nat) : Int))))
          ((k (Go.Abs.AVal.int Go.IntKind.i64 (2 : Int)) []))
          ((Go.Abs.fitsK Go.IntKind.i64 (x6.2.2.2.1 + (1 : Int))) ∧
          (K6 (x6.1, (x6.2.1, (x6.2.2.1, ((x6.2.2.2.1 + (1 : Int)), (x6.2.2.2.2.1, (x6.2.2.2.2.2.1, ())))))))))
         ((k (Go.Abs.AVal.int Go.IntKind.i64 (2 : Int)) [])))
        ((Go.Abs.Label.v47.p (x6.1, ())) ∧
        Go.Abs.Loop (σ := (Int × ((List Int) × (Int × (Bool × (Int × (Int × ((List ((List Int) × Int)) × Unit)))))))) (fun K8 x8 =>
          br ((decide (x8.2.2.2.2.1 < (((List.length x8.2.1) : Nat) : Int))))
           (∃ h10 : (((0 : Int) ≤ x8.2.2.2.2.1) ∧ ((Int.toNat x8.2.2.2.2.1) < (List.length x8.2.1))),
           ∃ h11 : (((0 : Int) ≤ (x8.2.1[(Int.toNat x8.2.2.2.2.1)]'h10.2)) ∧ ((Int.toNat (x8.2.1[(Int.toNat x8.2.2.2.2.1)]'h10.2)) < (List.length x8.2.2.2.2.2.2.1))),
           (Go.Abs.Label.v47.p ((x8.2.2.2.2.2.2.1[(Int.toNat (x8.2.1[(Int.toNat x8.2.2.2.2.1)]'h10.2))]'h11.2).1, ())) ∧
           br (((decide ((x8.2.2.2.2.2.2.1[(Int.toNat (x8.2.1[(Int.toNat x8.2.2.2.2.1)]'h10.2))]'h11.2).2 < (0 : Int))) == Bool.true))
            (br (((decide (x8.1 ≥ (0 : Int))) == Bool.false))
             ((Go.Abs.fitsK Go.IntKind.i64 ((((List.length x8.2.1) : Nat) : Int) - (1 : Int))) ∧
             br (((decide (x8.2.2.2.2.1 < ((((List.length x8.2.1) : Nat) : Int) - (1 : Int)))) == Bool.false))
              (br (((Go.Abs.bitsA Go.BinOp.and Go.IntKind.i64 (Go.Abs.Label.bitsI (x8.2.2.2.2.2.2.1[(Int.toNat (x8.2.1[(Int.toNat x8.2.2.2.2.1)]'h10.2))]'h11.2).1) x8.2.2.1) != (Go.Abs.Label.bitsI (x8.2.2.2.2.2.2.1[(Int.toNat (x8.2.1[(Int.toNat x8.2.2.2.2.1)]'h10.2))]'h11.2).1)))
               ((k (Go.Abs.AVal.int Go.IntKind.i64 (16 : Int)) []))
               (br ((decide ((x8.2.2.2.2.2.2.1[(Int.toNat (x8.2.1[(Int.toNat x8.2.2.2.2.1)]'h10.2))]'h11.2).2 < (0 : Int))))
                ((Go.Abs.fitsK Go.IntKind.i64 (x8.2.2.2.2.1 + (1 : Int))) ∧
                (K8 (x8.1, (x8.2.1, (x8.2.2.1, (Bool.true, ((x8.2.2.2.2.1 + (1 : Int)), (x8.2.2.2.2.2.1, (x8.2.2.2.2.2.2.1, ())))))))))
                (((0 : Int) ≤ (x8.2.2.2.2.2.2.1[(Int.toNat (x8.2.1[(Int.toNat x8.2.2.2.2.1)]'h10.2))]'h11.2).2) ∧
                (Go.Abs.fitsK Go.IntKind.i64 (x8.2.2.2.2.1 + (1 : Int))) ∧
                (K8 (x8.1, (x8.2.1, ((Go.Abs.bitsA Go.BinOp.or Go.IntKind.i64 x8.2.2.1 (Go.Abs.shlA Go.IntKind.i64 (1 : Int) (x8.2.2.2.2.2.2.1[(Int.toNat (x8.2.1[(Int.toNat x8.2.2.2.2.1)]'h10.2))]'h11.2).2)), (x8.2.2.2.1, ((x8.2.2.2.2.1 + (1 : Int)), (x8.2.2.2.2.2.1, (x8.2.2.2.2.2.2.1, ())))))))))))
              ((k (Go.Abs.AVal.int Go.IntKind.i64 (16 : Int)) [])))
             ((k (Go.Abs.AVal.int Go.IntKind.i64 (16 : Int)) [])))
            (br (((Go.Abs.bitsA Go.BinOp.and Go.IntKind.i64 (Go.Abs.Label.bitsI (x8.2.2.2.2.2.2.1[(Int.toNat (x8.2.1[(Int.toNat x8.2.2.2.2.1)]'h10.2))]'h11.2).1) x8.2.2.1) != (Go.Abs.Label.bitsI (x8.2.2.2.2.2.2.1[(Int.toNat (x8.2.1[(Int.toNat x8.2.2.2.2.1)]'h10.2))]'h11.2).1)))
             ((k (Go.Abs.AVal.int Go.IntKind.i64 (16 : Int)) []))
             (br ((decide ((x8.2.2.2.2.2.2.1[(Int.toNat (x8.2.1[(Int.toNat x8.2.2.2.2.1)]'h10.2))]'h11.2).2 < (0 : Int))))
              ((Go.Abs.fitsK Go.IntKind.i64 (x8.2.2.2.2.1 + (1 : Int))) ∧
              (K8 (x8.1, (x8.2.1, (x8.2.2.1, (Bool.true, ((x8.2.2.2.2.1 + (1 : Int)), (x8.2.2.2.2.2.1, (x8.2.2.2.2.2.2.1, ())))))))))
              (((0 : Int) ≤ (x8.2.2.2.2.2.2.1[(Int.toNat (x8.2.1[(Int.toNat x8.2.2.2.2.1)]'h10.2))]'h11.2).2) ∧
              (Go.Abs.fitsK Go.IntKind.i64 (x8.2.2.2.2.1 + (1 : Int))) ∧
              (K8 (x8.1, (x8.2.1, ((Go.Abs.bitsA Go.BinOp.or Go.IntKind.i64 x8.2.2.1 (Go.Abs.shlA Go.IntKind.i64 (1 : Int) (x8.2.2.2.2.2.2.1[(Int.toNat (x8.2.1[(Int.toNat x8.2.2.2.2.1)]'h10.2))]'h11.2).2)), (x8.2.2.2.1, ((x8.2.2.2.2.1 + (1 : Int)), (x8.2.2.2.2.2.1, (x8.2.2.2.2.2.2.1, ()))))))))))))
           (br (((decide (x8.1 < (0 : Int))) == Bool.true))
            (br (((Bool.not x8.2.2.2.1) == Bool.false))
             (br (((decide (x8.1 ≥ (0 : Int))) == Bool.true))
              (((0 : Int) ≤ x8.1) ∧
              br (((Go.Abs.bitsA Go.BinOp.and Go.IntKind.i64 (Go.Abs.shrA Go.IntKind.i64 x8.2.2.1 x8.1) (1 : Int)) == (0 : Int)))
               ((k (Go.Abs.AVal.int Go.IntKind.i64 (14 : Int)) []))
               ((k (Go.Abs.AVal.int Go.IntKind.i64 (0 : Int)) [])))
              ((k (Go.Abs.AVal.int Go.IntKind.i64 (0 : Int)) [])))
             ((k (Go.Abs.AVal.int Go.IntKind.i64 (14 : Int)) [])))
            (br (((decide (x8.1 ≥ (0 : Int))) == Bool.true))
             (((0 : Int) ≤ x8.1) ∧
             br (((Go.Abs.bitsA Go.BinOp.and Go.IntKind.i64 (Go.Abs.shrA Go.IntKind.i64 x8.2.2.1 x8.1) (1 : Int)) == (0 : Int)))
              ((k (Go.Abs.AVal.int Go.IntKind.i64 (14 : Int)) []))
              ((k (Go.Abs.AVal.int Go.IntKind.i64 (0 : Int)) [])))
             ((k (Go.Abs.AVal.int Go.IntKind.i64 (0 : Int)) []))))) ((x6.2.1, (x6.2.2.1, ((Go.Abs.Label.bitsI x6.1), (Bool.false, ((0 : Int), (x6.2.2.2.2.1, (x6.2.2.2.2.2.1, ())))))))))) ((l, (x, (s, ((0 : Int), (w, (rs, ())))))))))
    ((k (Go.Abs.AVal.int Go.IntKind.i64 (3 : Int)) [])))
theorem eq40 (w : Int) (rs : List (List Int × Int)) (l : List Int) (x : Int) (s : List Int) (k : AVal → List Cont → Prop) : awpF (envOf [(45, mkC [v45]), (47, mkC [v47])]) Tryz.prog kt 40 false Tryz.f40 (v40.args (w, rs, l, x, s, ())) (v40.conts (w, rs, l, x, s, ())) k = vc40 w rs l x s k := by kernel_rfl
theorem tx40 : (Tryz.f40.body.map Code.textsOk).getD true = true := by kernel_rfl

def vc34 (w : Int) (rs : List (List Int × Int)) (l : List Int) (x : Int) (s : List Int) (k : AVal → List Cont → Prop) : Prop :=
  (Go.Abs.Label.v40.p (w, (rs, (l, (x, (s, ())))))) ∧
  br (((Go.Abs.Label.chkS w rs l x s) != (0 : Int)))
   ((k (Go.Abs.AVal.bool Bool.false) []))
   (Go.Abs.Loop (σ := ((List Int) × (Int × ((List Int) × (Int × (Int × ((List ((List Int) × Int)) × Unit))))))) (fun K6 x6 =>
     br ((decide (x6.2.2.2.1 < (((List.length x6.2.2.1) : Nat) : Int))))
      (Go.Abs.Loop (σ := ((List Int) × (Int × ((List Int) × (Int × (Int × (Int × ((List ((List Int) × Int)) × ((List Int) × Unit))))))))) (fun K8 x8 =>
        br ((decide (x8.2.2.2.2.1 < (((List.length x8.2.2.1) : Nat) : Int))))
         (br ((x8.2.2.2.2.1 != x8.2.2.2.1))
          (∃ h10 : (((0 : Int) ≤ x8.2.2.2.2.1) ∧ ((Int.toNat x8.2.2.2.2.1) < (List.length x8.2.2.1))),
          (((List.length x8.2.2.2.2.2.2.2.1) + (List.length ((x8.2.2.1[(Int.toNat x8.2.2.2.2.1)]'h10.2) :: ([] : List Int)))) ≤ Go.Abs.big) ∧
          (Go.Abs.fitsK Go.IntKind.i64 (x8.2.2.2.2.1 + (1 : Int))) ∧
          (K8 (x8.1, (x8.2.1, (x8.2.2.1, (x8.2.2.2.1, ((x8.2.2.2.2.1 + (1 : Int)), (x8.2.2.2.2.2.1, (x8.2.2.2.2.2.2.1, ((x8.2.2.2.2.2.2.2.1 ++ ((x8.2.2.1[(Int.toNat x8.2.2.2.2.1)]'h10.2) :: ([] : List Int))), ()))))))))))
          ((Go.Abs.fitsK Go.IntKind.i64 (x8.2.2.2.2.1 + (1 : Int))) ∧
          (K8 (x8.1, (x8.2.1, (x8.2.2.1, (x8.2.2.2.1, ((x8.2.2.2.2.1 + (1 : Int)), (x8.2.2.2.2.2.1, (x8.2.2.2.2.2.2.1, (x8.2.2.2.2.2.2.2.1, ())))))))))))
         ((Go.Abs.Label.v40.p (x8.2.2.2.2.2.1, (x8.2.2.2.2.2.2.1, (x8.1, (x8.2.1, (x8.2.2.2.2.2.2.2.1, ())))))) ∧
         br (((Go.Abs.Label.chkS x8.2.2.2.2.2.1 x8.2.2.2.2.2.2.1 x8.1 x8.2.1 x8.2.2.2.2.2.2.2.1) == (0 : Int)))
          ((k (Go.Abs.AVal.bool Bool.false) []))
          ((Go.Abs.fitsK Go.IntKind.i64 (x8.2.2.2.1 + (1 : Int))) ∧
          (K6 (x8.1, (x8.2.1, (x8.2.2.1, ((x8.2.2.2.1 + (1 : Int)), (x8.2.2.2.2.2.1, (x8.2.2.2.2.2.2.1, ())))))))))) ((x6.1, (x6.2.1, (x6.2.2.1, (x6.2.2.2.1, ((0 : Int), (x6.2.2.2.2.1, (x6.2.2.2.2.2.1, (([] : List Int), ()))))))))))
      ((k (Go.Abs.AVal.bool Bool.true) []))) ((l, (x, (s, ((0 : Int), (w, (rs, ()))))))))
theorem eq34 (w : Int) (rs : List (List Int × Int)) (l : List Int) (x : Int) (s : List Int) (k : AVal → List Cont → Prop) : awpF (envOf [(40, mkC [v40])]) Tryz.prog kt 34 false Tryz.f34 (v34.args (w, rs, l, x, s, ())) (v34.conts (w, rs, l, x, s, ())) k = vc34 w rs l x s k := by kernel_rfl
theorem tx34 : (Tryz.f34.body.map Code.textsOk).getD true = true := by kernel_rfl

end Go.Abs.Label
end

section
/- The label's functions keep their contracts: given steps. -/
open Go.Proofs
set_option maxRecDepth 100000
set_option linter.unusedVariables false
namespace Go.Abs.Label

theorem hasI_sub (c : Nat) (l : List Int) : hasI (c : Int) (bitsI l) = subB (bitsL l) c := by
  unfold hasI bitsI
  rw [Int.toNat_natCast, Int.toNat_natCast]
theorem hasI_one (c : Nat) (t : Int) : hasI (c : Int) (andI 0 t) = c.testBit t.toNat := by
  unfold hasI andI
  rw [Int.toNat_natCast, Int.toNat_natCast]
  exact has_one
theorem andI_nat (c : Nat) (t : Int) : andI (c : Int) t = ((c ||| 2 ^ t.toNat : Nat) : Int) := by
  unfold andI
  rw [Int.toNat_natCast]

theorem goS_cons {rs : List (List Int × Int)} {x t : Int} {r : List Int} {c : Nat} {R : List Int × Int} (hR : ruleAt rs t = R) {n : Prop} [Decidable n] (hn : r ≠ [] ↔ n) :
    goS rs x (t :: r) c = if (R.2 < 0 ∧ (0 ≤ x ∨ n)) ∨ subB (bitsL R.1) c = false then 16 else if R.2 < 0 then 0 else goS rs x r (c ||| 2 ^ R.2.toNat) := by
  subst hR
  simp only [goS, hn]

theorem k33 (hG : Good Tryz.prog (envOf [(42, mkC [v42]), (50, mkC [v50]), (73, mkC [v73]), (59, mkC [v59]), (57, mkC [v57])])) : v33.Kept Tryz.prog 33 := by
  rintro ⟨w, rs, l, x, s, ⟨⟩⟩ hpre k hk
  change Int at w
  change List (List Int × Int) at rs
  change List Int at l
  change Int at x
  change List Int at s
  refine aspec hmix hG Tryz.func33 tx33 (Eq.mpr (eq33 w rs l x s k) ?_)
  replace hk : k (rI (chkS w rs l x s)) [] := hk
  unfold vc33
  obtain ⟨hs, hl, hsl⟩ := hpre
  have hl : l.length ≤ 1000 := hl
  have hsl : s.length ≤ 1000 := hsl
  refine ⟨⟨hs, hl⟩, ?_⟩
  unfold chkS at hk
  have bad : ∀ e : Int, e ≠ 0 → labelErr w rs l = e → k (rI e) [] := fun e h0 he => by
    rw [he, if_pos h0] at hk
    exact hk
  refine br_intro (fun h => bad 6 (by omega) (by simpa [leIs] using h)) (fun h6 => br_intro (fun h => bad 2 (by omega) (by simpa [leIs] using h)) (fun h2 => br_intro (fun h => bad 3 (by omega) (by simpa [leIs] using h)) (fun h3 => ?_)))
  have e := labelErr_cases w rs l h6 h2 h3
  obtain ⟨hg, hin, hb⟩ := label_isB e
  obtain ⟨hw1, hw2, hrl, _⟩ := guild_spec hg
  rw [if_neg (by omega)] at hk
  refine ⟨fits64 (by omega) (by omega), by show (1 : Nat) ≤ big60; decide, ?_⟩
  rw [Bool.not_not, anyOut_one]
  refine br_intro (fun h => by rw [if_pos h] at hk; exact hk) (fun hx => ?_)
  rw [if_neg (by simp [hx])] at hk
  simp only [outOf, decide_eq_false_iff_not] at hx
  refine ⟨fits64 (by omega) (by omega), by show s.length ≤ big60; simp only [big60]; omega, ?_⟩
  have ea : anyOut 0 ((rs.length : Int) - 1) s = s.any (stepBad rs) := rfl
  rw [Bool.not_not, ea]
  refine br_intro (fun h => by rw [if_pos h] at hk; exact hk) (fun hst => ?_)
  rw [if_neg (by simp [hst])] at hk
  have hst : ∀ t ∈ s, 0 ≤ t ∧ t < (rs.length : Int) := fun t ht => by
    have := List.any_eq_false.1 hst t ht
    unfold stepBad outOf at this
    simp only [decide_eq_true_eq] at this
    omega
  have hbl := bitsL_lt hin
  have hok := gd_then hg
  refine Loop.intro (fun y => ∃ (i c : Nat), y = (x, s, w, rs, s, ((s.length : Nat) : Int), (i : Int), (c : Int), ()) ∧ i ≤ s.length ∧ c < 1024 ∧ goS rs x (s.drop i) c = goS rs x s (bitsL l)) (fun y => s.length - y.2.2.2.2.2.2.1.toNat) ?_ ⟨0, bitsL l, rfl, by omega, hbl, rfl⟩
  rintro y K ⟨i, c, rfl, hi, hc, he⟩ hK
  dsimp only
  have hcB : isB (c : Int) := ⟨by omega, by omega⟩
  rw [br_decide]
  refine ⟨fun g => ?_, fun g => ?_⟩
  · have hi2 : i < s.length := by omega
    obtain ⟨ht0, ht1⟩ := hst _ (List.getElem_mem hi2)
    have htn : s[i].toNat < rs.length := by omega
    have hif := gd_if hg (List.getElem_mem htn)
    have hth := hok _ (List.getElem_mem htn)
    have hne : s.drop (i + 1) ≠ [] ↔ i + 1 < s.length := by
      rw [← List.length_pos_iff, List.length_drop]; omega
    have hR : ruleAt rs s[i] = rs[s[i].toNat] := getD_at htn
    rw [List.drop_eq_getElem_cons hi2, goS_cons hR hne] at he
    simp only [Int.toNat_natCast]
    refine ⟨⟨by omega, hi2⟩, ⟨ht0, htn⟩, ?_⟩
    have k16 : ((rs[s[i].toNat].2 < 0 ∧ (0 ≤ x ∨ i + 1 < s.length)) ∨ subB (bitsL rs[s[i].toNat].1) c = false) → k (rI 16) [] := fun h => by
      rw [if_pos h] at he
      rw [← he] at hk
      exact hk
    have k0 : ¬ ((rs[s[i].toNat].2 < 0 ∧ (0 ≤ x ∨ i + 1 < s.length)) ∨ subB (bitsL rs[s[i].toNat].1) c = false) → rs[s[i].toNat].2 < 0 → k (rI 0) [] := fun h h2 => by
      rw [if_neg h, if_pos h2] at he
      rw [← he] at hk
      exact hk
    have kK : ¬ ((rs[s[i].toNat].2 < 0 ∧ (0 ≤ x ∨ i + 1 < s.length)) ∨ subB (bitsL rs[s[i].toNat].1) c = false) → ¬ rs[s[i].toNat].2 < 0 → K (x, s, w, rs, s, ((s.length : Nat) : Int), (i : Int) + 1, andI (c : Int) rs[s[i].toNat].2, ()) := fun h h2 => by
      rw [if_neg h, if_neg h2] at he
      refine hK _ ⟨i + 1, c ||| 2 ^ rs[s[i].toNat].2.toNat, by rw [andI_nat]; rfl, by omega, or_lt hc (by omega), he⟩ ?_
      dsimp only
      omega
    have sub : ∀ (P : Prop), (subB (bitsL rs[s[i].toNat].1) c = true → P) → (v73.p (rs[s[i].toNat].1, ())) ∧ (v59.p ((c : Int), ((bitsI rs[s[i].toNat].1), ()))) ∧ br (Bool.not (hasI (c : Int) (bitsI rs[s[i].toNat].1))) (k (rI 16) []) P := fun P hP => by
      refine ⟨⟨by show rs[s[i].toNat].1.length ≤ 1000; omega, hif.2⟩, ⟨hcB, isB_bits hif.2⟩, ?_⟩
      rw [hasI_sub, br_not]
      exact ⟨fun h => k16 (.inr h), hP⟩
    rw [br_true]
    refine ⟨fun g1 => ?_, fun g1 => ?_⟩
    · rw [br_false]
      refine ⟨fun g2 => ⟨fits64 (by omega) (by omega), ?_⟩, fun g2 => k16 (.inl ⟨g1, .inl (by omega)⟩)⟩
      rw [br_decide]
      refine ⟨fun g3 => ?_, fun g3 => ?_⟩
      · rw [br_decide]
        exact ⟨fun _ => k16 (.inl ⟨g1, .inr (by omega)⟩), fun h => absurd g3 h⟩
      · refine sub _ (fun h => ?_)
        rw [br_decide]
        have hn : ¬ ((rs[s[i].toNat].2 < 0 ∧ (0 ≤ x ∨ i + 1 < s.length)) ∨ subB (bitsL rs[s[i].toNat].1) c = false) := by
          rw [h]; simp; omega
        exact ⟨fun h2 => k0 hn h2, fun h2 => absurd g1 h2⟩
    · refine sub _ (fun h => ?_)
      rw [br_decide]
      have hn : ¬ ((rs[s[i].toNat].2 < 0 ∧ (0 ≤ x ∨ i + 1 < s.length)) ∨ subB (bitsL rs[s[i].toNat].1) c = false) := by
        rw [h]; simp; omega
      have g2 : 0 ≤ rs[s[i].toNat].2 := by omega
      exact ⟨fun h2 => absurd h2 g1, fun h2 => ⟨⟨hcB, g2, hth⟩, fits64 (by omega) (by omega), kK hn h2⟩⟩
  · have e0 : s.drop i = [] := List.drop_eq_nil_of_le (by omega)
    rw [e0] at he
    simp only [goS] at he
    rw [← he] at hk
    rw [br_false]
    refine ⟨fun g2 => ?_, fun g2 => by rw [if_pos (.inl g2)] at hk; exact hk⟩
    have g3 : 0 ≤ x := by omega
    have g4 : x ≤ 9 := by omega
    refine ⟨⟨zero_isB, g3, g4⟩, ⟨hcB, andI_isB zero_isB g3 g4⟩, ?_⟩
    rw [hasI_one, br_not]
    refine ⟨fun h => by rw [if_pos (.inr h)] at hk; exact hk, fun h => ?_⟩
    rw [if_neg (by rw [h]; simp; omega)] at hk
    exact hk
end Go.Abs.Label
end

section
/- The label's functions keep their contracts: given steps by the reference. -/
open Go.Proofs
set_option maxRecDepth 100000
set_option linter.unusedVariables false
namespace Go.Abs.Label

theorem and_ne_nat {a : List Int} {c : Nat} (hc : c < 1024) (ha : inL 0 9 a) : (bitsA .and .i64 (bitsI a) (c : Int) != bitsI a) = Bool.not (subB (bitsL a) c) := by
  have h := and_sub hc ha
  show Bool.not (bitsA .and .i64 (bitsI a) (c : Int) == bitsI a) = _
  rw [h]

theorem k40 (hG : Good Tryz.prog (envOf [(45, mkC [v45]), (47, mkC [v47])])) : v40.Kept Tryz.prog 40 := by
  rintro ⟨w, rs, l, x, s, ⟨⟩⟩ hpre k hk
  change Int at w
  change List (List Int × Int) at rs
  change List Int at l
  change Int at x
  change List Int at s
  refine aspec hmix hG Tryz.func40 tx40 (Eq.mpr (eq40 w rs l x s k) ?_)
  replace hk : k (rI (chkS w rs l x s)) [] := hk
  unfold vc40
  obtain ⟨hs, hl, hsl⟩ := hpre
  have hl : l.length ≤ 1000 := hl
  have hsl : s.length ≤ 1000 := hsl
  refine ⟨⟨hs, hl⟩, ?_⟩
  unfold chkS at hk
  rw [br_bne]
  refine ⟨fun h => ⟨⟨hs, hl⟩, ?_⟩, fun e => ?_⟩
  · rw [if_pos h] at hk; exact hk
  obtain ⟨hg, hin, hb⟩ := label_isB e
  obtain ⟨hw1, hw2, hrl, _⟩ := guild_spec hg
  rw [if_neg (by omega)] at hk
  have out : (x < -1 ∨ w - 1 < x) → k (rI 3) [] := fun h => by
    have : outOf (-1) (w - 1) x = true := by unfold outOf; simpa using h
    rw [if_pos this] at hk; exact hk
  rw [br_false]
  refine ⟨fun x1 => ?_, fun x1 => out (.inl x1)⟩
  rw [br_decide]
  refine ⟨fun x2 => out (.inr (by omega)), fun x2 => ?_⟩
  have hx : outOf (-1) (w - 1) x = false := by unfold outOf; rw [decide_eq_false_iff_not]; omega
  rw [if_neg (by simp [hx])] at hk
  have no : ∀ (i : Nat) (hi : i < s.length), (s[i] < 0 ∨ (rs.length : Int) ≤ s[i]) → k (rI 2) [] := fun i hi h => by
    have : s.any (stepBad rs) = true := any_at hi (by unfold stepBad outOf; rw [decide_eq_true_eq]; omega)
    rw [if_pos this] at hk; exact hk
  refine Loop.upto (fun i => (l, x, s, (i : Int), w, rs, ())) (fun i => ∀ y ∈ s.take i, stepBad rs y = false) s.length rfl (by simp) ?_ ?_
  · intro i K hi hp hK
    dsimp only
    rw [br_decide]
    refine ⟨fun _ => ?_, fun h => absurd hi (by omega)⟩
    try simp only [Int.toNat_natCast]
    refine ⟨⟨by omega, by omega⟩, ?_⟩
    rw [br_false]
    refine ⟨fun g1 => ⟨⟨by omega, by omega⟩, ?_⟩, fun g1 => no i hi (.inl g1)⟩
    rw [br_decide]
    refine ⟨fun g2 => no i hi (.inr (by omega)), fun g2 => ⟨fits64 (by omega) (by omega), hK (take_all_succ _ _ _ hi hp ?_)⟩⟩
    unfold stepBad outOf; rw [decide_eq_false_iff_not]; omega
  · intro K hp
    dsimp only
    rw [br_decide]
    refine ⟨fun h => absurd h (by omega), fun _ => ?_⟩
    rw [List.take_length] at hp
    have hst0 : s.any (stepBad rs) = false := any_no hp
    rw [if_neg (by simp [hst0])] at hk
    have hst : ∀ t ∈ s, 0 ≤ t ∧ t < (rs.length : Int) := fun t ht => by
      have := hp t ht
      unfold stepBad outOf at this
      simp only [decide_eq_false_iff_not] at this
      omega
    have hbl := bitsL_lt hin
    have hok := gd_then hg
    refine ⟨⟨hl, hin⟩, ?_⟩
    refine Loop.intro (fun y => ∃ (i c : Nat) (f : Bool), y = (x, s, (c : Int), f, (i : Int), w, rs, ()) ∧ i ≤ s.length ∧ c < 1024 ∧ ((f = false ∧ goS rs x (s.drop i) c = goS rs x s (bitsL l)) ∨ (f = true ∧ x < 0 ∧ i = s.length ∧ goS rs x s (bitsL l) = 0))) (fun y => s.length - y.2.2.2.2.1.toNat) ?_ ⟨0, bitsL l, false, rfl, by omega, hbl, .inl ⟨rfl, rfl⟩⟩
    rintro y K2 ⟨i, c, f, rfl, hi, hc, he⟩ hK2
    dsimp only
    rw [br_decide]
    refine ⟨fun g => ?_, fun g => ?_⟩
    · have hi2 : i < s.length := by omega
      rcases he with ⟨rfl, he⟩ | ⟨_, _, h, _⟩
      rotate_left
      · omega
      obtain ⟨ht0, ht1⟩ := hst _ (List.getElem_mem hi2)
      have htn : s[i].toNat < rs.length := by omega
      have hif := gd_if hg (List.getElem_mem htn)
      have hth := hok _ (List.getElem_mem htn)
      have hne : s.drop (i + 1) ≠ [] ↔ i + 1 < s.length := by
        rw [← List.length_pos_iff, List.length_drop]; omega
      have hR : ruleAt rs s[i] = rs[s[i].toNat] := getD_at htn
      rw [List.drop_eq_getElem_cons hi2, goS_cons hR hne] at he
      simp only [Int.toNat_natCast]
      refine ⟨⟨by omega, hi2⟩, ⟨ht0, htn⟩, ⟨by show rs[s[i].toNat].1.length ≤ 1000; omega, hif.2⟩, ?_⟩
      have k16 : ((rs[s[i].toNat].2 < 0 ∧ (0 ≤ x ∨ i + 1 < s.length)) ∨ subB (bitsL rs[s[i].toNat].1) c = false) → k (rI 16) [] := fun h => by
        rw [if_pos h] at he
        rw [← he] at hk
        exact hk
      have k0 : ¬ ((rs[s[i].toNat].2 < 0 ∧ (0 ≤ x ∨ i + 1 < s.length)) ∨ subB (bitsL rs[s[i].toNat].1) c = false) → rs[s[i].toNat].2 < 0 → K2 (x, s, (c : Int), true, (i : Int) + 1, w, rs, ()) := fun h h2 => by
        rw [if_neg h, if_pos h2] at he
        refine hK2 _ ⟨i + 1, c, true, rfl, by omega, hc, .inr ⟨rfl, by omega, by omega, he.symm⟩⟩ ?_
        dsimp only
        omega
      have kK : ¬ ((rs[s[i].toNat].2 < 0 ∧ (0 ≤ x ∨ i + 1 < s.length)) ∨ subB (bitsL rs[s[i].toNat].1) c = false) → ¬ rs[s[i].toNat].2 < 0 → K2 (x, s, bitsA .or .i64 (c : Int) (shlA .i64 1 rs[s[i].toNat].2), false, (i : Int) + 1, w, rs, ()) := fun h h2 => by
        rw [if_neg h, if_neg h2] at he
        rw [shl_or ⟨by omega, by omega⟩ (by omega) hth, andI_nat]
        refine hK2 _ ⟨i + 1, c ||| 2 ^ rs[s[i].toNat].2.toNat, false, rfl, by omega, or_lt hc (by omega), .inl ⟨rfl, he⟩⟩ ?_
        dsimp only
        omega
      rw [and_ne_nat hc hif.2]
      have rest : (rs[s[i].toNat].2 < 0 → ¬ (0 ≤ x ∨ i + 1 < s.length)) → br (Bool.not (subB (bitsL rs[s[i].toNat].1) c)) (k (rI 16) []) (br (decide (rs[s[i].toNat].2 < 0)) (fitsK .i64 ((i : Int) + 1) ∧ K2 (x, s, (c : Int), true, (i : Int) + 1, w, rs, ())) (0 ≤ rs[s[i].toNat].2 ∧ fitsK .i64 ((i : Int) + 1) ∧ K2 (x, s, bitsA .or .i64 (c : Int) (shlA .i64 1 rs[s[i].toNat].2), false, (i : Int) + 1, w, rs, ()))) := fun hq => by
        rw [br_not]
        refine ⟨fun h => k16 (.inr h), fun h => ?_⟩
        have hn : ¬ ((rs[s[i].toNat].2 < 0 ∧ (0 ≤ x ∨ i + 1 < s.length)) ∨ subB (bitsL rs[s[i].toNat].1) c = false) := by
          rw [h]
          rintro (⟨h1, h2⟩ | h1)
          · exact hq h1 h2
          · cases h1
        rw [br_decide]
        exact ⟨fun h2 => ⟨fits64 (by omega) (by omega), k0 hn h2⟩, fun h2 => ⟨by omega, fits64 (by omega) (by omega), kK hn h2⟩⟩
      rw [br_true]
      refine ⟨fun g1 => ?_, fun g1 => rest (fun h => absurd h g1)⟩
      rw [br_false]
      refine ⟨fun g2 => ⟨fits64 (by omega) (by omega), ?_⟩, fun g2 => k16 (.inl ⟨g1, .inl (by omega)⟩)⟩
      rw [br_false]
      exact ⟨fun g3 => rest (fun _ => by omega), fun g3 => k16 (.inl ⟨g1, .inr (by omega)⟩)⟩
    · have e0 : s.drop i = [] := List.drop_eq_nil_of_le (by omega)
      rw [e0] at he
      simp only [goS] at he
      have last : 0 ≤ x → (0 ≤ x ∧ br (bitsA .and .i64 (shrA .i64 (c : Int) x) 1 == 0) (k (rI 14) []) (k (rI 0) [])) := fun h0 => by
        rcases he with ⟨_, he⟩ | ⟨_, h, _⟩
        · obtain ⟨X, rfl⟩ := Int.eq_ofNat_of_zero_le h0
          rw [Int.toNat_natCast] at he
          refine ⟨h0, ?_⟩
          rw [bit_none c X (by omega), br_not]
          refine ⟨fun h => ?_, fun h => ?_⟩
          · rw [if_pos (.inr h)] at he; rw [← he] at hk; exact hk
          · rw [if_neg (by rw [h]; simp <;> omega)] at he; rw [← he] at hk; exact hk
        · omega
      rw [br_true]
      refine ⟨fun g1 => ?_, fun g1 => ?_⟩
      · rw [br_bf]
        refine ⟨fun h => ?_, fun h => ?_⟩
        · rw [br_true]
          refine ⟨fun g2 => last g2, fun _ => ?_⟩
          rcases he with ⟨rfl, he⟩ | ⟨_, _, _, he⟩
          · cases h
          · rw [he] at hk; exact hk
        · rcases he with ⟨_, he⟩ | ⟨rfl, _⟩
          · rw [if_pos (.inl g1)] at he; rw [← he] at hk; exact hk
          · cases h
      · rw [br_true]
        exact ⟨fun g2 => last g2, fun g2 => by omega⟩

theorem k34 (hG : Good Tryz.prog (envOf [(40, mkC [v40])])) : v34.Kept Tryz.prog 34 := by
  rintro ⟨w, rs, l, x, s, ⟨⟩⟩ hpre k hk
  change Int at w
  change List (List Int × Int) at rs
  change List Int at l
  change Int at x
  change List Int at s
  refine aspec hmix hG Tryz.func34 tx34 (Eq.mpr (eq34 w rs l x s k) ?_)
  replace hk : k (.bool (needS w rs l x s)) [] := hk
  unfold vc34
  obtain ⟨hs, hl, hsl⟩ := hpre
  have hl : l.length ≤ 1000 := hl
  have hsl : s.length ≤ 1000 := hsl
  unfold needS at hk
  refine ⟨⟨hs, hl, hsl⟩, ?_⟩
  rw [br_bne]
  refine ⟨fun h => ?_, fun e => ?_⟩
  · have : decide (chkS w rs l x s = 0) = false := by simpa using h
    rw [this, Bool.false_and] at hk; exact hk
  rw [e, show decide ((0 : Int) = 0) = true from rfl, Bool.true_and] at hk
  refine Loop.upto (fun i => (l, x, s, (i : Int), w, rs, ())) (fun i => ∀ j, j < i → chkS w rs l x (s.eraseIdx j) ≠ 0) s.length rfl (fun j h => by omega) ?_ ?_
  · intro i K hi hp hK
    dsimp only
    rw [br_decide]
    refine ⟨fun _ => ?_, fun h => absurd hi (by omega)⟩
    try simp only [Int.toNat_natCast]
    refine Loop.upto (fun j => (l, x, s, (i : Int), (j : Int), w, rs, (s.take j).eraseIdx i, ())) (fun j => True) s.length rfl trivial ?_ ?_
    · intro j K_j hj hp_j hK_j
      dsimp only
      rw [br_decide]
      refine ⟨fun _ => ?_, fun h => absurd hj (by omega)⟩
      try simp only [Int.toNat_natCast]
      have hK_j := hK_j trivial
      have hll : ((s.take j).eraseIdx i).length ≤ j := Nat.le_trans (List.length_eraseIdx_le _ _) (by simp; omega)
      rw [List.take_succ_eq_append_getElem hj] at hK_j
      have htl : (s.take j).length = j := by rw [List.length_take]; omega
      rw [br_bne]
      refine ⟨fun h => ⟨⟨by omega, by omega⟩, by simp only [List.length_cons, List.length_nil, big]; omega, fits64 (by omega) (by omega), ?_⟩, fun h => ⟨fits64 (by omega) (by omega), ?_⟩⟩
      · have e2 : (s.take j ++ [s[j]]).eraseIdx i = (s.take j).eraseIdx i ++ [s[j]] := by
          rcases Nat.lt_or_ge i j with h1 | h1
          · rw [List.eraseIdx_append_of_lt_length (by omega)]
          · rw [List.eraseIdx_of_length_le (by rw [List.length_append, List.length_singleton]; omega), List.eraseIdx_of_length_le (by omega)]
        rw [e2] at hK_j
        exact hK_j
      · have hij : i = j := by omega
        have e2 : (s.take j ++ [s[j]]).eraseIdx i = (s.take j).eraseIdx i := by
          rw [List.eraseIdx_append_of_length_le (by omega), List.eraseIdx_of_length_le (show (s.take j).length ≤ i by omega), show i - (s.take j).length = 0 by omega]
          simp
        rw [e2] at hK_j
        exact hK_j
    · intro K_j hp_j
      dsimp only
      rw [br_decide]
      refine ⟨fun h => absurd h (by omega), fun _ => ?_⟩
      rw [List.take_length]
      refine ⟨⟨hs, hl, by show (s.eraseIdx i).length ≤ 1000; exact Nat.le_trans (List.length_eraseIdx_le _ _) hsl⟩, ?_⟩
      rw [br_beq]
      refine ⟨fun h => ?_, fun h => ⟨fits64 (by omega) (by omega), hK (fun j hj => ?_)⟩⟩
      · have : (List.range s.length).all (fun i => !decide (chkS w rs l x (s.eraseIdx i) = 0)) = false := by
          rw [← Bool.not_eq_true, List.all_eq_true]
          intro h2
          have := h2 i (by simpa using hi)
          simp [h] at this
        rw [this] at hk; exact hk
      · rcases Nat.lt_or_ge j i with h1 | h1
        · exact hp j h1
        · obtain rfl : j = i := by omega
          exact h
  · intro K hp
    dsimp only
    rw [br_decide]
    refine ⟨fun h => absurd h (by omega), fun _ => ?_⟩
    have : (List.range s.length).all (fun i => !decide (chkS w rs l x (s.eraseIdx i) = 0)) = true := by
      rw [List.all_eq_true]
      intro i hi
      have := hp i (by simpa using hi)
      simp [this]
    rw [this] at hk; exact hk
end Go.Abs.Label
end

section
/- What the label's functions compute: steps that lead to a word. -/
namespace Go.Abs.Label
def grantR (c : Nat) (r : List Int × Int) : Bool := decide (0 ≤ r.2) && (subB (bitsL r.1) c && !c.testBit r.2.toNat)
/-- The steps in order, as far as they go. -/
def runS (rs : List (List Int × Int)) : Nat → Nat × List Int → Nat × List Int
  | 0, s => s
  | n + 1, s => if indexOf (grantR s.1) rs < 0 then s else runS rs n (s.1 ||| 2 ^ (ruleAt rs (indexOf (grantR s.1) rs)).2.toNat, s.2 ++ [indexOf (grantR s.1) rs])
def runOf (rs : List (List Int × Int)) (b : Nat) : Nat × List Int := runS rs 11 (b, [])
def backS (rs : List (List Int × Int)) (b : Nat) (s : Nat × List Int) (i : Int) : Nat × List Int :=
  if (ruleAt rs i).2 < 0 ∨ s.1.testBit (ruleAt rs i).2.toNat = true then (andNot (s.1 ||| bitsL (ruleAt rs i).1) b, s.2 ++ [i]) else s
def backOf (rs : List (List Int × Int)) (b need : Nat) (out : List Int) : List Int := (out.reverse.foldl (backS rs b) (need, [])).2.reverse
def lessAt (w : Int) (rs : List (List Int × Int)) (b word : Int) (s : List Int) : Int := indexOf (fun i : Nat => decide (chkS w rs (listI b) word (s.eraseIdx i) = 0)) (List.range s.length)
def lessS (w : Int) (rs : List (List Int × Int)) (b word : Int) : Nat → List Int → List Int
  | 0, s => s
  | n + 1, s => if lessAt w rs b word s < 0 then s else lessS w rs b word n (s.eraseIdx (lessAt w rs b word s).toNat)
def lessL (w : Int) (rs : List (List Int × Int)) (b word : Int) (s : List Int) : List Int := lessS w rs b word (s.length + 1) s
def hasSteps (rs : List (List Int × Int)) (b word : Int) : Bool :=
  if 0 ≤ word then (runOf rs b.toNat).1.testBit word.toNat else !decide (indexOf (ban3 ((runOf rs b.toNat).1 : Int)) rs < 0)
def rawS (rs : List (List Int × Int)) (b word : Int) : List Int :=
  if 0 ≤ word then backOf rs b.toNat (2 ^ word.toNat) (runOf rs b.toNat).2
  else backOf rs b.toNat (bitsL (ruleAt rs (indexOf (ban3 ((runOf rs b.toNat).1 : Int)) rs)).1) ((runOf rs b.toNat).2 ++ [indexOf (ban3 ((runOf rs b.toNat).1 : Int)) rs])
def stepL (w : Int) (rs : List (List Int × Int)) (b word : Int) : List Int := if hasSteps rs b word then lessL w rs b word (rawS rs b word) else []
def stepErr (w : Int) (rs : List (List Int × Int)) (l : List Int) (word : Int) : Int :=
  if labelErr w rs l ≠ 0 then labelErr w rs l else if outOf (-1) (w - 1) word then 3 else if hasSteps rs (bitsI l) word then 0 else 5
def stepsL (w : Int) (rs : List (List Int × Int)) (l : List Int) (word : Int) : List Int := if stepErr w rs l word = 0 then stepL w rs (bitsI l) word else []
end Go.Abs.Label
end

section
/- The contracts of the label's functions: steps that lead to a word. -/
namespace Go.Abs.Label
def v91 : Var := ⟨.cs sR (.cs sSS .nl), [], fun x => x.1.length ≤ 1000 ∧ inL 0 9 x.1 ∧ isB x.2.2.1, fun x => one (rBo (ban3 x.2.2.1 (x.1, x.2.1)))⟩
abbrev sC91 : VS := .fn 91 .nl (.cs sSS .nl)
def v83e : Var := ⟨.cs sRL (.cs sC91 .nl), [], fun x => x.1.length ≤ 1000 ∧ goodIfs x.1 ∧ isB x.2.1, fun x => one (rI (indexOf (ban3 x.2.1) x.1))⟩
def v92 : Var := ⟨.cs sL .nl, [], fun _ => True, fun x => .leaf (.fn (.func 103) [] [.iptr [.imm (.int .i64) x.1 false]]) []⟩
def v93 : Var := ⟨.cs (.reg 0 false) .nl, [.sl (.int .i64)], fun x => x.1.length ≤ 1000, fun x => .leaf (.tup []) [.sl (.int .i64) x.1.reverse]⟩
def v105 : Var := ⟨.cs sL .nl, [], fun x => x.1.length ≤ 1000, fun x => own x.1⟩
def v104 : Var := ⟨.cs (.reg 0 false) (.cs sI (.cs sI .nl)), [.sl (.int .i64)], fun x => x.2.2.1.length ≤ 1000 ∧ 0 ≤ x.1 ∧ x.1 < x.2.2.1.length ∧ x.2.1 = x.1 + 1, fun x => .leaf (.sub 0 0 (x.2.2.1.length - 1) false) [.sl (.int .i64) ((show List Int from x.2.2.1).eraseIdx x.1.toNat ++ [(0 : Int)] : List Int)]⟩
def v94 : Var := ⟨.cs sD (.cs sS (.cs sI (.cs sL .nl))), [], fun x => Gd x.1 x.2.1 ∧ isB x.2.2.1 ∧ x.2.2.2.2.1.length ≤ 1000, fun x => one (.imm (.int .i64) (lessL x.1 x.2.1 x.2.2.1 x.2.2.2.1 x.2.2.2.2.1) false)⟩
def v75 : Var := ⟨.cs sD (.cs sS (.cs sI .nl)), [], fun x => Gd x.1 x.2.1 ∧ isB x.2.2.1 ∧ -1 ≤ x.2.2.2.1 ∧ x.2.2.2.1 < x.1, fun x => one (.tup [.imm (.int .i64) (stepL x.1 x.2.1 x.2.2.1 x.2.2.2.1) false, rBo (hasSteps x.2.1 x.2.2.1 x.2.2.2.1)])⟩
def v32 : Var := ⟨.cs sG (.cs sL (.cs sI .nl)), [], fun x => smallG x.2.1 ∧ x.2.2.1.length ≤ 1000, fun x => ownE (stepsL x.1 x.2.1 x.2.2.1 x.2.2.2.1) (stepErr x.1 x.2.1 x.2.2.1 x.2.2.2.1)⟩
end Go.Abs.Label
end

section
/- Conditions and their equations, printed by a program. -/
open Go.Proofs
set_option maxRecDepth 100000
set_option linter.unusedVariables false
namespace Go.Abs.Label
def vc91 (l : List Int) (t s : Int) (k : AVal → List Cont → Prop) : Prop :=
  br (((decide (t < (0 : Int))) == Bool.true))
   ((Go.Abs.Label.v73.p (l, ())) ∧
   (Go.Abs.Label.v59.p (s, ((Go.Abs.Label.bitsI l), ()))) ∧
   (k (Go.Abs.AVal.bool (Go.Abs.Label.hasI s (Go.Abs.Label.bitsI l))) []))
   ((k (Go.Abs.AVal.bool Bool.false) []))
theorem eq91 (l : List Int) (t s : Int) (k : AVal → List Cont → Prop) : awpF (envOf [(73, mkC [v73]), (59, mkC [v59])]) Tryz.prog kt 91 false Tryz.f91 (v91.args (l, t, s, ())) (v91.conts (l, t, s, ())) k = vc91 l t s k := by kernel_rfl
theorem tx91 : (Tryz.f91.body.map Code.textsOk).getD true = true := by kernel_rfl

def vc83e (rs : List (List Int × Int)) (s : Int) (k : AVal → List Cont → Prop) : Prop :=
  Go.Abs.Loop (σ := ((List ((List Int) × Int)) × (Int × (Int × (Int × Unit))))) (fun K3 x3 =>
    br ((decide (x3.2.2.2.1 < x3.2.2.1)))
     (∃ h5 : (((0 : Int) ≤ x3.2.2.2.1) ∧ ((Int.toNat x3.2.2.2.1) < (List.length x3.1))),
     (Go.Abs.Label.v91.p ((x3.1[(Int.toNat x3.2.2.2.1)]'h5.2).1, ((x3.1[(Int.toNat x3.2.2.2.1)]'h5.2).2, (x3.2.1, ())))) ∧
     br ((Go.Abs.Label.ban3 x3.2.1 ((x3.1[(Int.toNat x3.2.2.2.1)]'h5.2).1, (x3.1[(Int.toNat x3.2.2.2.1)]'h5.2).2)))
      ((k (Go.Abs.AVal.int Go.IntKind.i64 x3.2.2.2.1) []))
      ((Go.Abs.fitsK Go.IntKind.i64 (x3.2.2.2.1 + (1 : Int))) ∧
      (K3 (x3.1, (x3.2.1, (x3.2.2.1, ((x3.2.2.2.1 + (1 : Int)), ())))))))
     ((k (Go.Abs.AVal.int Go.IntKind.i64 (-(1 : Int) : Int)) []))) ((rs, (s, ((((List.length rs) : Nat) : Int), ((0 : Int), ())))))
theorem eq83e (rs : List (List Int × Int)) (s : Int) (k : AVal → List Cont → Prop) : awpF (envOf [(91, mkC [v91])]) Tryz.prog kt 83 false Tryz.f83 (v83e.args (rs, s, ())) (v83e.conts (rs, s, ())) k = vc83e rs s k := by kernel_rfl

def vc92 (l : List Int) (k : AVal → List Cont → Prop) : Prop :=
  (k (Go.Abs.AVal.fn (Go.Fn.func (103 : Nat)) [] ((Go.Abs.AVal.iptr ((Go.Abs.AVal.imm (Go.Abs.Ty.int Go.IntKind.i64) l Bool.false) :: [])) :: [])) [])
theorem eq92 (l : List Int) (k : AVal → List Cont → Prop) : awpF (envOf []) Tryz.prog kt 92 false Tryz.f92 (v92.args (l, ())) (v92.conts (l, ())) k = vc92 l k := by kernel_rfl
theorem tx92 : (Tryz.f92.body.map Code.textsOk).getD true = true := by kernel_rfl

def vc105 (l : List Int) (k : AVal → List Cont → Prop) : Prop :=
  ∀ b2 : Bool,
  ∀ b3 : ((b2 = Bool.true) → (l = ([] : List Int))),
  br (b2)
   ((k (Go.Abs.AVal.reg 0 Bool.false) ((Go.Abs.Cont.sl (Go.Abs.Ty.int Go.IntKind.i64) ([] : List Int)) :: [])))
   ((((List.length ([] : List Int)) + (List.length l)) ≤ Go.Abs.big) ∧
   (k (Go.Abs.AVal.reg 0 Bool.false) ((Go.Abs.Cont.sl (Go.Abs.Ty.int Go.IntKind.i64) (([] : List Int) ++ l)) :: [])))
theorem eq105 (l : List Int) (k : AVal → List Cont → Prop) : awpF (envOf []) Tryz.prog kt 105 false Tryz.f105 (v105.args (l, ())) (v105.conts (l, ())) k = vc105 l k := by kernel_rfl
theorem tx105 : (Tryz.f105.body.map Code.textsOk).getD true = true := by kernel_rfl

def vc94 (w : Int) (rs : List (List Int × Int)) (b : Int) (x : Int) (s : List Int) (k : AVal → List Cont → Prop) : Prop :=
  Go.Abs.Loop (σ := (Int × ((List ((List Int) × Int)) × (Int × ((List Int) × (Int × (Int × Unit))))))) (fun K6 x6 =>
    br ((decide (x6.2.2.2.2.1 < (((List.length x6.2.2.2.1) : Nat) : Int))))
     ((Go.Abs.Label.v105.p (x6.2.2.2.1, ())) ∧
     (Go.Abs.fitsK Go.IntKind.i64 (x6.2.2.2.2.1 + (1 : Int))) ∧
     (Go.Abs.Label.v104.p (x6.2.2.2.2.1, ((x6.2.2.2.2.1 + (1 : Int)), (x6.2.2.2.1, ())))) ∧
     (Go.Abs.Label.v44.p (x6.2.2.2.2.2.1, ())) ∧
     (Go.Abs.Label.v33.p (x6.1, (x6.2.1, ((Go.Abs.Label.listI x6.2.2.2.2.2.1), (x6.2.2.1, ((List.take ((List.length x6.2.2.2.1) - (1 : Nat)) (List.drop (0 : Nat) ((List.eraseIdx x6.2.2.2.1 (Int.toNat x6.2.2.2.2.1)) ++ ((0 : Int) :: ([] : List Int))))), ())))))) ∧
     br (((Go.Abs.Label.chkS x6.1 x6.2.1 (Go.Abs.Label.listI x6.2.2.2.2.2.1) x6.2.2.1 (List.take ((List.length x6.2.2.2.1) - (1 : Nat)) (List.drop (0 : Nat) ((List.eraseIdx x6.2.2.2.1 (Int.toNat x6.2.2.2.2.1)) ++ ((0 : Int) :: ([] : List Int)))))) == (0 : Int)))
      ((K6 (x6.1, (x6.2.1, (x6.2.2.1, ((List.take ((List.length x6.2.2.2.1) - (1 : Nat)) (List.drop (0 : Nat) ((List.eraseIdx x6.2.2.2.1 (Int.toNat x6.2.2.2.2.1)) ++ ((0 : Int) :: ([] : List Int))))), ((0 : Int), (x6.2.2.2.2.2.1, ()))))))))
      ((Go.Abs.fitsK Go.IntKind.i64 (x6.2.2.2.2.1 + (1 : Int))) ∧
      (K6 (x6.1, (x6.2.1, (x6.2.2.1, (x6.2.2.2.1, ((x6.2.2.2.2.1 + (1 : Int)), (x6.2.2.2.2.2.1, ())))))))))
     ((k (Go.Abs.AVal.imm (Go.Abs.Ty.int Go.IntKind.i64) x6.2.2.2.1 Bool.false) []))) ((w, (rs, (x, (s, ((0 : Int), (b, ())))))))
theorem eq94 (w : Int) (rs : List (List Int × Int)) (b : Int) (x : Int) (s : List Int) (k : AVal → List Cont → Prop) : awpF (envOf [(105, mkC [v105]), (104, mkC [v104]), (44, mkC [v44]), (33, mkC [v33])]) Tryz.prog kt 94 true Tryz.f94 (v94.args (w, rs, b, x, s, ())) (v94.conts (w, rs, b, x, s, ())) k = vc94 w rs b x s k := by kernel_rfl
theorem tx94 : (Tryz.f94.body.map Code.textsOk).getD true = true := by kernel_rfl

def vc32 (w : Int) (rs : List (List Int × Int)) (l : List Int) (x : Int) (k : AVal → List Cont → Prop) : Prop :=
  (Go.Abs.Label.v42.p (w, (rs, (l, ())))) ∧
  br ((Go.Abs.Label.leIs w rs l (6 : Int)))
   ((k (Go.Abs.AVal.tup ((Go.Abs.AVal.reg 0 Bool.false) :: ((Go.Abs.AVal.int Go.IntKind.i64 (6 : Int)) :: []))) ((Go.Abs.Cont.sl (Go.Abs.Ty.int Go.IntKind.i64) ([] : List Int)) :: [])))
   (br ((Go.Abs.Label.leIs w rs l (2 : Int)))
    ((k (Go.Abs.AVal.tup ((Go.Abs.AVal.reg 0 Bool.false) :: ((Go.Abs.AVal.int Go.IntKind.i64 (2 : Int)) :: []))) ((Go.Abs.Cont.sl (Go.Abs.Ty.int Go.IntKind.i64) ([] : List Int)) :: [])))
    (br ((Go.Abs.Label.leIs w rs l (3 : Int)))
     ((k (Go.Abs.AVal.tup ((Go.Abs.AVal.reg 0 Bool.false) :: ((Go.Abs.AVal.int Go.IntKind.i64 (3 : Int)) :: []))) ((Go.Abs.Cont.sl (Go.Abs.Ty.int Go.IntKind.i64) ([] : List Int)) :: [])))
     ((Go.Abs.fitsK Go.IntKind.i64 (w - (1 : Int))) ∧
     (Go.Abs.Label.v50.p ((-(1 : Int) : Int), ((w - (1 : Int)), ((x :: ([] : List Int)), ())))) ∧
     br ((Bool.not (Bool.not (Go.Abs.Label.anyOut (-(1 : Int) : Int) (w - (1 : Int)) (x :: ([] : List Int))))))
      ((k (Go.Abs.AVal.tup ((Go.Abs.AVal.reg 0 Bool.false) :: ((Go.Abs.AVal.int Go.IntKind.i64 (3 : Int)) :: []))) ((Go.Abs.Cont.sl (Go.Abs.Ty.int Go.IntKind.i64) ([] : List Int)) :: [])))
      ((Go.Abs.Label.v75.p (w, (rs, ((Go.Abs.Label.bitsI l), (x, ()))))) ∧
      br ((Bool.not (Go.Abs.Label.hasSteps rs (Go.Abs.Label.bitsI l) x)))
       ((k (Go.Abs.AVal.tup ((Go.Abs.AVal.reg 0 Bool.false) :: ((Go.Abs.AVal.int Go.IntKind.i64 (5 : Int)) :: []))) ((Go.Abs.Cont.sl (Go.Abs.Ty.int Go.IntKind.i64) ([] : List Int)) :: [])))
       ((((0 : Int) ≤ (((List.length (Go.Abs.Label.stepL w rs (Go.Abs.Label.bitsI l) x)) : Nat) : Int)) ∧ (((((List.length (Go.Abs.Label.stepL w rs (Go.Abs.Label.bitsI l) x)) : Nat) : Int) = (((List.length (Go.Abs.Label.stepL w rs (Go.Abs.Label.bitsI l) x)) : Nat) : Int)) ∧ ((((List.length (Go.Abs.Label.stepL w rs (Go.Abs.Label.bitsI l) x)) : Nat) : Int) ≤ ((Go.Abs.big : Nat) : Int)))) ∧
       (k (Go.Abs.AVal.tup ((Go.Abs.AVal.reg 0 Bool.false) :: ((Go.Abs.AVal.int Go.IntKind.i64 (0 : Int)) :: []))) ((Go.Abs.Cont.sl (Go.Abs.Ty.int Go.IntKind.i64) ((List.take (List.length (List.replicate (Int.toNat (((List.length (Go.Abs.Label.stepL w rs (Go.Abs.Label.bitsI l) x)) : Nat) : Int)) (Int.ofNat 0))) (Go.Abs.Label.stepL w rs (Go.Abs.Label.bitsI l) x)) ++ (List.drop (List.length (Go.Abs.Label.stepL w rs (Go.Abs.Label.bitsI l) x)) (List.replicate (Int.toNat (((List.length (Go.Abs.Label.stepL w rs (Go.Abs.Label.bitsI l) x)) : Nat) : Int)) (Int.ofNat 0))))) :: [])))))))
theorem eq32 (w : Int) (rs : List (List Int × Int)) (l : List Int) (x : Int) (k : AVal → List Cont → Prop) : awpF (envOf [(42, mkC [v42]), (50, mkC [v50]), (75, mkC [v75])]) Tryz.prog kt 32 false Tryz.f32 (v32.args (w, rs, l, x, ())) (v32.conts (w, rs, l, x, ())) k = vc32 w rs l x k := by kernel_rfl
theorem tx32 : (Tryz.f32.body.map Code.textsOk).getD true = true := by kernel_rfl

end Go.Abs.Label
end

section
/- The label's functions keep their contracts: parts of steps. -/
open Go.Proofs
set_option maxRecDepth 100000
set_option linter.unusedVariables false
namespace Go.Abs.Label

theorem k91 (hG : Good Tryz.prog (envOf [(73, mkC [v73]), (59, mkC [v59])])) : v91.Kept Tryz.prog 91 := by
  rintro ⟨l, t, s, ⟨⟩⟩ hpre k hk
  change List Int at l
  change Int at t s
  refine aspec hmix hG Tryz.func91 tx91 (Eq.mpr (eq91 l t s k) ?_)
  replace hk : k (.bool (ban3 s (l, t))) [] := hk
  unfold vc91
  obtain ⟨hl, hin, hs⟩ := hpre
  have hl : l.length ≤ 1000 := hl
  have hin : inL 0 9 l := hin
  have hs : isB s := hs
  have eh : hasR s (l, t) = hasI s (bitsI l) := by
    unfold hasR hasI bitsI
    rw [Int.toNat_natCast]
  unfold ban3 at hk
  rw [eh] at hk
  rw [br_true]
  refine ⟨fun h => ⟨⟨hl, hin⟩, ⟨hs, isB_bits hin⟩, ?_⟩, fun h => ?_⟩
  · have e : decide ((l, t).2 < 0) = true := by simpa using h
    rw [e, Bool.true_and] at hk
    exact hk
  · have e : decide ((l, t).2 < 0) = false := by simpa using h
    rw [e, Bool.false_and] at hk
    exact hk

theorem k83e (hG : Good Tryz.prog (envOf [(91, mkC [v91])])) : v83e.Kept Tryz.prog 83 := by
  rintro ⟨rs, s, ⟨⟩⟩ hpre k hk
  change List (List Int × Int) at rs
  change Int at s
  refine aspec hmix hG Tryz.func83 tx83 (Eq.mpr (eq83e rs s k) ?_)
  replace hk : k (rI (indexOf (ban3 s) rs)) [] := hk
  unfold vc83e
  obtain ⟨h1, h2, h3⟩ := hpre
  have h1 : rs.length ≤ 1000 := h1
  have h2 : goodIfs rs := h2
  refine Loop.upto (fun i => (rs, s, ((rs.length : Nat) : Int), (i : Int), ())) (fun i => ∀ y ∈ rs.take i, (ban3 s) y = false) rs.length rfl (by simp) ?_ ?_
  · intro j K_j hj hp_j hK_j
    dsimp only
    rw [br_decide]
    refine ⟨fun _ => ?_, fun h => absurd hj (by omega)⟩
    try simp only [Int.toNat_natCast]
    have hif := h2 _ (List.getElem_mem hj)
    refine ⟨⟨by omega, by omega⟩, ⟨hif.1, hif.2, h3⟩, ?_⟩
    refine br_intro (fun h => ?_) (fun h => ⟨fits64 (by omega) (by omega), hK_j (take_all_succ _ _ _ hj hp_j h)⟩)
    have : indexOf (ban3 s) rs = (j : Int) := indexOf_some _ rs j hj hp_j h
    rwa [this] at hk
  · intro K hp
    dsimp only
    rw [br_decide]
    refine ⟨fun h => absurd h (by omega), fun _ => ?_⟩
    rw [List.take_length] at hp
    have : indexOf (ban3 s) rs = -1 := indexOf_none _ rs hp
    rwa [this] at hk

theorem k92 (hG : Good Tryz.prog (envOf [])) : v92.Kept Tryz.prog 92 := by
  rintro ⟨l, ⟨⟩⟩ hpre k hk
  change List Int at l
  refine aspec hmix hG Tryz.func92 tx92 (Eq.mpr (eq92 l k) ?_)
  replace hk : k (.fn (.func 103) [] [.iptr [.imm (.int .i64) l false]]) [] := hk
  unfold vc92
  exact hk

theorem k105 (hG : Good Tryz.prog (envOf [])) : v105.Kept Tryz.prog 105 := by
  rintro ⟨l, ⟨⟩⟩ hpre k hk
  change List Int at l
  refine aspec hmix hG Tryz.func105 tx105 (Eq.mpr (eq105 l k) ?_)
  replace hk : k (.reg 0 false) [.sl (.int .i64) l] := hk
  unfold vc105
  have h1 : l.length ≤ 1000 := hpre
  intro b hb
  refine br_intro (fun h => ?_) (fun h => ⟨by simp [big]; omega, hk⟩)
  have e := hb h
  subst e
  exact hk
end Go.Abs.Label
end

section
/- The library's Delete, Reverse and Grow at this program: the numbers of their parts (printed by the kit's tool). -/
namespace Go.Proofs
open Go.Shelf
def Tryz.layDel_ren : Go.Shelf.Ren := ⟨fun | 45 => 104 | n => n, fun | 22 => 25 | 23 => 3 | 3 => 3 | 4 => 4 | 0 => 0 | n => n, fun | n => n⟩
theorem Tryz.layDel : Go.Proofs.SlLaysE.n45 Tryz.prog Tryz.layDel_ren := {
  mixed := by kernel_rfl
  f45 := ⟨Tryz.f104.name, by decide, Tryz.func104.trans (congrArg some (by kernel_rfl))⟩
  t0 := Tryz.underlying0
  a0 := Tryz.isAgg0
  z0 := Tryz.sizeOf0
  v0 := Tryz.zeroValue0
  t3 := Tryz.underlying3
  a3 := Tryz.isAgg3
  z3 := Tryz.sizeOf3
  v3 := Tryz.zeroValue3
  t4 := Tryz.underlying4
  a4 := Tryz.isAgg4
  z4 := Tryz.sizeOf4
  v4 := Tryz.zeroValue4
  t22 := Tryz.underlying25
  a22 := Tryz.isAgg25
  z22 := Tryz.sizeOf25
  v22 := Tryz.zeroValue25
  a23 := Tryz.isAgg3
  z23 := Tryz.sizeOf3 }
def Tryz.layRev_ren : Go.Shelf.Ren := ⟨fun | 35 => 93 | n => n, fun | 22 => 25 | 23 => 3 | 3 => 3 | 4 => 4 | 0 => 0 | n => n, fun | n => n⟩
theorem Tryz.layRev : Go.Proofs.SlLaysE.n35 Tryz.prog Tryz.layRev_ren := {
  mixed := by kernel_rfl
  f35 := ⟨Tryz.f93.name, by decide, Tryz.func93.trans (congrArg some (by kernel_rfl))⟩
  t0 := Tryz.underlying0
  a0 := Tryz.isAgg0
  z0 := Tryz.sizeOf0
  v0 := Tryz.zeroValue0
  t3 := Tryz.underlying3
  a3 := Tryz.isAgg3
  z3 := Tryz.sizeOf3
  v3 := Tryz.zeroValue3
  t4 := Tryz.underlying4
  a4 := Tryz.isAgg4
  z4 := Tryz.sizeOf4
  v4 := Tryz.zeroValue4
  t22 := Tryz.underlying25
  a22 := Tryz.isAgg25
  z22 := Tryz.sizeOf25
  v22 := Tryz.zeroValue25
  a23 := Tryz.isAgg3
  z23 := Tryz.sizeOf3 }
def Tryz.layGrow_ren : Go.Shelf.Ren := ⟨fun | 4 => 90 | n => n, fun | 22 => 22 | 25 => 58 | 3 => 3 | 4 => 4 | 9 => 9 | 20 => 20 | 0 => 0 | n => n, fun | n => n⟩
theorem Tryz.layGrow : Go.Proofs.Lays8.n4 Tryz.prog Tryz.layGrow_ren := {
  mixed := by kernel_rfl
  f4 := ⟨Tryz.f90.name, by decide, Tryz.func90.trans (congrArg some (by kernel_rfl))⟩
  t0 := Tryz.underlying0
  a0 := Tryz.isAgg0
  z0 := Tryz.sizeOf0
  v0 := Tryz.zeroValue0
  t3 := Tryz.underlying3
  a3 := Tryz.isAgg3
  z3 := Tryz.sizeOf3
  v3 := Tryz.zeroValue3
  t4 := Tryz.underlying4
  a4 := Tryz.isAgg4
  z4 := Tryz.sizeOf4
  v4 := Tryz.zeroValue4
  t9 := Tryz.underlying9
  a9 := Tryz.isAgg9
  z9 := Tryz.sizeOf9
  v9 := Tryz.zeroValue9
  t20 := Tryz.underlying20
  a20 := Tryz.isAgg20
  z20 := Tryz.sizeOf20
  v20 := Tryz.zeroValue20
  t22 := Tryz.underlying22
  a22 := Tryz.isAgg22
  z22 := Tryz.sizeOf22
  v22 := Tryz.zeroValue22 }
end Go.Proofs
end

section
/- The library's Delete and Reverse, at slices of numbers: contracts over regions handed to them. -/
namespace Go.Abs
open Go.Proofs Go.Shelf Go.Sort

theorem row_world (w : World) (blk off q : Nat) (d : Array Int) : putRow (Value.int .i64) (Sort.ahead w q) blk off d = sortWorld (Value.int .i64) w blk off q d #[] := by
  unfold sortWorld grow putRow mapBlock
  simp

theorem ints_one : OneCell (Value.int .i64) := fun _ => rfl

/-- What a slice of numbers of one's own is in memory. -/
theorem ints_holds {F : Nat → Prop} {K : Know} {H : Nat → Option Hd} {w : World} {l : List Int} {hd : Hd} (hm : MRel F K H w (newM (fun _ => none) 0 [.sl (.int .i64) l])) (hH : H 0 = some hd) (hpos : 0 < l.length) :
    ∃ b cs e, hd.base = some b ∧ hd.len = l.length ∧ hd.len ≤ hd.cap ∧ hd.cap ≤ 9223372036854775807 ∧ hd.sz = 1 ∧ w.heap[b]? = some (.cells cs e (0, 0)) ∧ hd.cap ≤ cs.size ∧ ¬ F b ∧ K.cells b = none ∧ K.inv b = none ∧ Holds (Value.int .i64) w b 0 l.toArray := by
  obtain ⟨c1, c2, ⟨c3, c3'⟩, c4⟩ := hm.cont 0 (.sl (.int .i64) l) .own hd rfl (by simp) hH
  have c2 : hd.len = @List.length Int l := c2
  rcases c4 with ⟨c4, c5⟩ | ⟨b, cs, e, fz, g1, g2, g3, g4⟩
  · omega
  obtain ⟨o1, o2, o3, o4⟩ := hm.own 0 (.sl (.int .i64) l) hd b rfl hH g1
  obtain ⟨cs', e', o5⟩ := o4 rfl
  rw [g2] at o5
  cases o5
  have hs1 : Ty.size (.int .i64) = 1 := rfl
  rw [hs1, Nat.mul_one] at g3
  refine ⟨b, cs, e, g1, c2, c3, c3', c1, g2, g3, o1, o2, o3, ?_⟩
  intro j hj
  have hj' : j < l.length := by simpa using hj
  refine ⟨?_, ?_⟩
  · unfold World.cell?
    rw [g2]
    simp only [Option.isSome_none, Bool.false_eq_true, if_false, Nat.zero_add]
    have := g4 j hj'
    rw [hs1, Nat.mul_one, Nat.zero_add] at this
    have h2 : slab cs j 1 = [Value.int .i64 (@GetElem.getElem (List Int) Nat Int _ _ l j hj')] := this
    rw [slab_one h2, getElem!_pos l.toArray j hj]
    simp
  · unfold World.frozen?
    rw [g2]
    simp

/-- What is left after the slice was written over. -/
theorem ints_after {F : Nat → Prop} {K : Know} {H : Nat → Option Hd} {w : World} {l l' : List Int} {hd : Hd} (hok : WOk F K w) (hm : MRel F K H w (newM (fun _ => none) 0 [.sl (.int .i64) l])) (hH : H 0 = some hd) (hpos : 0 < l.length)
    {b q : Nat} (hb : hd.base = some b) (hl' : l'.length = l.length) :
    MRel F K H (sortWorld (Value.int .i64) w b 0 q l'.toArray #[]) (newM (fun _ => none) 0 [.sl (.int .i64) l']) ∧ WOk F K (sortWorld (Value.int .i64) w b 0 q l'.toArray #[]) ∧ Kept F w (sortWorld (Value.int .i64) w b 0 q l'.toArray #[]) := by
  obtain ⟨b', cs, e, g1, c2, c3, c3', c1, g2, g3, o1, o2, o3, hh⟩ := ints_holds hm hH hpos
  rw [hb] at g1
  cases g1
  have hcont : ContRel K H (sortWorld (Value.int .i64) w b 0 q l'.toArray #[]) hd (.sl (.int .i64) l') := by
    refine ⟨c1, (show hd.len = @List.length Int l' by omega), ⟨c3, c3'⟩, .inr ⟨b, _, _, (0, 0), hb, sort_heap_at (Value.int .i64) w b 0 q l'.toArray #[] g2, ?_, ?_⟩⟩
    · show hd.cap * 1 ≤ _
      rw [Nat.mul_one]; simpa [putCells] using g3
    · intro i hi
      have hi : i < @List.length Int l' := hi
      have hi2 : i < l'.toArray.size := by simpa using hi
      have : (putCells (Value.int .i64) 0 l'.toArray cs)[i]? = some (Value.int .i64 (@GetElem.getElem (List Int) Nat Int _ _ l' i hi)) := by
        simp only [putCells, Array.getElem?_mapIdx, Nat.zero_add, Nat.zero_le, true_and, Nat.sub_zero]
        rw [Array.getElem?_eq_getElem (by omega), Option.map_some, if_pos hi2, getElem!_pos _ i hi2]
        simp
      show DenRep K (.int .i64) _ (slab _ (0 + i * 1) 1)
      rw [Nat.mul_one, Nat.zero_add, slab_of this]
      rfl
  refine ⟨?_, sort_ok hok (Value.int .i64) b 0 q l'.toArray #[] o2 o3, sort_kept hok (Value.int .i64) b 0 q l'.toArray #[] o1⟩
  have only : ∀ {r : Nat} {c : Cont} {f : Flag}, newM (fun _ => none) 0 [Cont.sl (.int .i64) l'] r = some (c, f) → r = 0 ∧ c = .sl (.int .i64) l' ∧ f = .own := by
    intro r c f h
    have h' : upd (fun _ => none) 0 (Cont.sl (.int .i64) l', Flag.own) r = some (c, f) := h
    by_cases hr : r = 0
    · subst hr; rw [upd_same] at h'; cases h'; exact ⟨rfl, rfl, rfl⟩
    · rw [upd_ne _ _ _ _ hr] at h'; cases h'
  refine ⟨?_, ?_, ?_, ?_⟩
  · intro r c f hd' h2 _ h3
    obtain ⟨rfl, rfl, rfl⟩ := only h2
    rw [hH] at h3; cases h3
    exact hcont
  · intro r c hd' b' h2 h3 h4
    obtain ⟨rfl, rfl, _⟩ := only h2
    rw [hH] at h3; cases h3
    rw [hb] at h4; cases h4
    exact ⟨o1, o2, o3, fun _ => ⟨_, _, sort_heap_at (Value.int .i64) w b 0 q l'.toArray #[] g2⟩⟩
  · intro r c hd' b' h2
    obtain ⟨_, _, h3⟩ := only h2
    cases h3
  · intro r r' c c' hd1 hd2 b' h2 h3
    rw [(only h2).1, (only h3).1]; intros; rfl

theorem reverse_spec {P : Program} {ρ : Ren} (L : SlLaysE.n35 P ρ) {l : List Int} (hlen : l.length < 4611686018427387904) {full : Bool} {k : AVal → List Cont → Prop} (hk : k (.tup []) [.sl (.int .i64) l.reverse]) :
    ASpec P (ρ.f 35) [.reg 0 full] [.sl (.int .i64) l] k := by
  intro F K H w vs hok hargs hm hfr
  obtain ⟨v0, vs', rfl, hr0, hargs'⟩ := hargs.inv
  obtain rfl : vs' = [] := RepL.nil_iff.1 hargs'
  clear hargs hargs'
  simp only [Rep] at hr0
  obtain ⟨hd, hH, rfl, hfull⟩ := hr0
  obtain ⟨c1, c2, c3, c4⟩ := hm.cont 0 (.sl (.int .i64) l) .own hd rfl (by simp) hH
  have c2 : hd.len = @List.length Int l := c2
  rcases Nat.eq_zero_or_pos l.length with h0 | hpos
  · have e0 : hd.len = 0 := by omega
    have el : l = [] := List.eq_nil_of_length_eq_zero h0
    subst el
    rw [e0]
    refine (AnyE.slices_Reverse_empty L _ hd.cap w).mono ?_
    rintro e w' ⟨rfl, rfl⟩
    refine ⟨_, .tup [], [.sl (.int .i64) []], K, H, rfl, hk, .refl K, ?_, hm, hfr, hok, .refl _ _, .refl _ _, Nat.le_refl _, fun _ _ => rfl⟩
    simp only [Rep]
    exact ⟨#[], rfl, .nil⟩
  obtain ⟨b, cs, e, g1, -, -, -, -, -, -, -, -, -, hh⟩ := ints_holds hm hH hpos
  rw [g1, c2]
  refine (AnyE.slices_Reverse L (Value.int .i64) ints_one b 0 hd.cap l w hh (by omega)).mono ?_
  rintro e2 w' ⟨rfl, q, rfl⟩
  rw [row_world]
  obtain ⟨a1, a2, a3⟩ := ints_after (q := q) (l' := l.reverse) hok hm hH hpos g1 (by simp)
  refine ⟨_, .tup [], [.sl (.int .i64) l.reverse], K, H, rfl, hk, .refl K, ?_, a1, hfr, a2, a3, .refl _ _, Nat.le_refl _, fun _ _ => rfl⟩
  simp only [Rep]
  exact ⟨#[], rfl, .nil⟩

theorem delete_spec {P : Program} {ρ : Ren} (L : SlLaysE.n45 P ρ) (v23 : ∀ w, (zeroValue (ρ.t 23)).run P w = .ok (Value.int .i64 0) w) {i0 : TypeInfo} (hi0 : P.info? (ρ.t 23) = some i0) (hz1 : i0.size = 1)
    {l : List Int} {i : Nat} (hi : i < l.length) {full : Bool} {k : AVal → List Cont → Prop} (hk : k (.sub 0 0 (l.length - 1) false) [.sl (.int .i64) (l.eraseIdx i ++ [0])]) :
    ASpec P (ρ.f 45) [.reg 0 full, .int .i64 (i : Int), .int .i64 ((i + 1 : Nat) : Int)] [.sl (.int .i64) l] k := by
  intro F K H w vs hok hargs hm hfr
  obtain ⟨v0, vs', rfl, hr0, hargs'⟩ := hargs.inv
  obtain ⟨v1, vs'', rfl, hr1, hargs''⟩ := hargs'.inv
  obtain ⟨v2, vs3, rfl, hr2, hargs3⟩ := hargs''.inv
  obtain rfl : vs3 = [] := RepL.nil_iff.1 hargs3
  clear hargs hargs' hargs'' hargs3
  simp only [Rep] at hr0 hr1 hr2
  subst hr1; subst hr2
  obtain ⟨hd, hH, rfl, hfull⟩ := hr0
  have hpos : 0 < l.length := by omega
  obtain ⟨b, cs, e, g1, c2, c3, hcap, c1, g2, g3, o1, o2, o3, hh⟩ := ints_holds hm hH hpos
  have hl' : (l.eraseIdx i ++ [0]).length = l.length := by simp [List.length_eraseIdx, hi]; omega
  rw [g1, c2]
  refine (AnyE.slices_Delete L (Value.int .i64) ints_one 0 v23 i0 hi0 hz1 b 0 hd.cap i (i + 1) l.toArray w hh (by simp; omega) hcap (by omega) (by simp; omega)).mono ?_
  rintro e2 w' ⟨rfl, q, rfl⟩
  have e3 : (l.toArray.toList.take i ++ l.toArray.toList.drop (i + 1) ++ List.replicate (i + 1 - i) (0 : Int)) = l.eraseIdx i ++ [0] := by
    rw [show i + 1 - i = 1 by omega, List.eraseIdx_eq_take_drop_succ]; simp
  rw [e3, row_world]
  obtain ⟨a1, a2, a3⟩ := ints_after (q := q) (l' := l.eraseIdx i ++ [0]) hok hm hH hpos g1 hl'
  refine ⟨_, .sub 0 0 (l.length - 1) false, [.sl (.int .i64) (l.eraseIdx i ++ [0])], K, H, rfl, hk, .refl K, ?_, a1, hfr, a2, a3, .refl _ _, Nat.le_refl _, fun _ _ => rfl⟩
  simp only [Rep]
  refine ⟨hd, hd.cap, some ⟨b, 0, none⟩, hH, ?_, by omega, by omega, by omega, by simp, .inr ⟨b, g1, by simp⟩⟩
  simp only [List.size_toArray, show l.length - (i + 1 - i) = l.length - 1 by omega]
end Go.Abs
end

section
/- The label's functions keep their contracts: steps without those that can be left out. -/
open Go.Proofs
set_option maxRecDepth 100000
set_option linter.unusedVariables false
namespace Go.Abs.Label

theorem k93 (hG : Good Tryz.prog (envOf [])) : v93.Kept Tryz.prog 93 := by
  rintro ⟨l, ⟨⟩⟩ h1 k hk
  have h1 : @List.length Int l ≤ 1000 := h1
  have hk : k (.tup []) [.sl (.int .i64) (@List.reverse Int l)] := hk
  exact reverse_spec Tryz.layRev (l := l) (by omega) (full := false) hk

theorem k104 (hG : Good Tryz.prog (envOf [])) : v104.Kept Tryz.prog 104 := by
  rintro ⟨i, j, l, ⟨⟩⟩ ⟨h1, h2, h3, h4⟩ k hk
  have h1 : @List.length Int l ≤ 1000 := h1
  have h2 : (0 : Int) ≤ i := h2
  have h3 : i < ((@List.length Int l : Nat) : Int) := h3
  have h4 : j = i + 1 := h4
  have hk : k (.sub 0 0 (@List.length Int l - 1) false) [.sl (.int .i64) (@List.eraseIdx Int l i.toNat ++ [(0 : Int)])] := hk
  have ei : i = ((i.toNat : Nat) : Int) := by omega
  have ej : j = ((i.toNat + 1 : Nat) : Int) := by omega
  obtain ⟨i0, hi0, hz1⟩ : ∃ i0, Tryz.prog.info? (Tryz.layDel_ren.t 23) = some i0 ∧ i0.size = 1 := ⟨Tryz.t3, by kernel_rfl, by kernel_rfl⟩
  have := delete_spec Tryz.layDel (fun w => Tryz.zeroValue3 w) hi0 hz1 (l := l) (i := i.toNat) (by omega) (full := false) hk
  rw [← ei, ← ej] at this
  exact this

theorem fold_max {n : Nat} : ∀ (rs : List (List Int × Int)) (a : Nat), a ≤ n → (∀ r ∈ rs, r.1.length ≤ n) → rs.foldl (fun n r => max n r.1.length) a ≤ n
  | [], a, h, _ => h
  | r :: rs, a, h, h2 => fold_max rs _ (Nat.max_le.2 ⟨h, h2 r (List.mem_cons_self ..)⟩) (fun x hx => h2 x (List.mem_cons_of_mem _ hx))
theorem gd_small {w : Int} {rs : List (List Int × Int)} (h : Gd w rs) : smallG rs := by
  have h1 := (guild_spec h).2.2.1
  have h2 : maxIf rs ≤ 4 := fold_max rs 0 (by omega) (fun r hr => (gd_if h hr).1)
  show greatG rs = false
  unfold greatG
  exact decide_eq_false (by omega)

theorem take_erase (l : List Int) {i : Nat} (hi : i < l.length) : List.take (l.length - 1) (List.drop 0 (l.eraseIdx i ++ [(0 : Int)])) = l.eraseIdx i := by
  have : (l.eraseIdx i).length = l.length - 1 := by rw [List.length_eraseIdx, if_pos hi]
  rw [List.drop_zero, ← this]
  simp

theorem less_none {w : Int} {rs : List (List Int × Int)} {b x : Int} {s : List Int} (h : ∀ j < s.length, chkS w rs (listI b) x (s.eraseIdx j) ≠ 0) : lessL w rs b x s = s := by
  have e : lessAt w rs b x s = -1 := by
    unfold lessAt
    refine indexOf_none _ _ (fun j hj => ?_)
    exact decide_eq_false (h j (List.mem_range.1 hj))
  unfold lessL lessS
  rw [e]
  rfl
theorem less_some {w : Int} {rs : List (List Int × Int)} {b x : Int} {s : List Int} {i : Nat} (hi : i < s.length) (h : ∀ j < i, chkS w rs (listI b) x (s.eraseIdx j) ≠ 0) (h0 : chkS w rs (listI b) x (s.eraseIdx i) = 0) :
    lessL w rs b x s = lessL w rs b x (s.eraseIdx i) := by
  have e : lessAt w rs b x s = (i : Int) := by
    unfold lessAt
    refine indexOf_some _ _ i (by simpa using hi) (fun j hj => ?_) ?_
    · rw [List.take_range] at hj
      have := List.mem_range.1 hj
      exact decide_eq_false (h j (by omega))
    · rw [List.getElem_range]; exact decide_eq_true h0
  have hl : (s.eraseIdx i).length + 1 = s.length := by rw [List.length_eraseIdx, if_pos hi]; omega
  conv => lhs; unfold lessL lessS
  rw [e, if_neg (by omega), Int.toNat_natCast]
  unfold lessL
  rw [hl]

theorem k94 (hG : Good Tryz.prog (envOf [(105, mkC [v105]), (104, mkC [v104]), (44, mkC [v44]), (33, mkC [v33])])) : v94.Kept Tryz.prog 94 := by
  rintro ⟨w, rs, b, x, s, ⟨⟩⟩ hpre k hk
  change Int at w
  change List (List Int × Int) at rs
  change Int at b
  change Int at x
  change List Int at s
  refine aspec hmix hG Tryz.func94 tx94 (Eq.mpr (eq94 w rs b x s k) ?_)
  replace hk : k (.imm (.int .i64) (lessL w rs b x s) false) [] := hk
  unfold vc94
  obtain ⟨hg, hb, h3⟩ := hpre
  have hg : Gd w rs := hg
  have hb : isB b := hb
  have h3 : s.length ≤ 1000 := h3
  refine Loop.intro (fun y => ∃ (t : List Int) (i : Nat), y = (w, rs, x, t, (i : Int), b, ()) ∧ t.length ≤ s.length ∧ i ≤ t.length ∧ (∀ j < i, chkS w rs (listI b) x (t.eraseIdx j) ≠ 0) ∧ lessL w rs b x t = lessL w rs b x s)
    (fun y => (@List.length Int y.2.2.2.1) * 1002 + (1001 - y.2.2.2.2.1.toNat)) ?_ ⟨s, 0, rfl, Nat.le_refl _, Nat.zero_le _, fun j hj => absurd hj (by omega), rfl⟩
  rintro _ K ⟨t, i, rfl, h4, h5, h6, h7⟩ hK
  dsimp only
  rw [br_decide]
  refine ⟨fun hlt => ?_, fun hlt => ?_⟩
  · have hi : i < t.length := by omega
    refine ⟨(show t.length ≤ 1000 by omega), fits64 (by omega) (by omega), ⟨(show t.length ≤ 1000 by omega), (show (0 : Int) ≤ (i : Int) by omega), (show (i : Int) < ((t.length : Nat) : Int) by omega), rfl⟩, hb, ?_⟩
    rw [Int.toNat_natCast, take_erase t hi]
    have hl : (t.eraseIdx i).length + 1 = t.length := by rw [List.length_eraseIdx, if_pos hi]; omega
    have hll : (listI b).length ≤ 10 := listI_len b
    refine ⟨⟨gd_small hg, (show (listI b).length ≤ 1000 by omega), (show (List.take (t.length - 1) (List.drop 0 (t.eraseIdx i ++ [(0 : Int)]))).length ≤ 1000 by rw [take_erase t hi]; omega)⟩, ?_⟩
    refine br_intro (fun h => ?_) (fun h => ⟨fits64 (by omega) (by omega), ?_⟩)
    · have h0 : chkS w rs (listI b) x (t.eraseIdx i) = 0 := eq_of_beq h
      refine hK _ ⟨t.eraseIdx i, 0, rfl, by omega, Nat.zero_le _, fun j hj => absurd hj (by omega), ?_⟩ ?_
      · rw [← less_some hi h6 h0]; exact h7
      · show (t.eraseIdx i).length * 1002 + (1001 - (0 : Int).toNat) < t.length * 1002 + (1001 - ((i : Int)).toNat)
        rw [Int.toNat_natCast]; simp; omega
    · refine hK _ ⟨t, i + 1, rfl, h4, hi, fun j hj => ?_, h7⟩ ?_
      · rcases Nat.lt_or_ge j i with g | g
        · exact h6 j g
        · have : j = i := by omega
          subst this
          intro h0
          rw [h0] at h
          exact absurd h (by decide)
      · show t.length * 1002 + (1001 - ((i : Int) + 1).toNat) < t.length * 1002 + (1001 - ((i : Int)).toNat)
        omega
  · have e := less_none (w := w) (rs := rs) (b := b) (x := x) (s := t) (fun j hj => h6 j (by omega))
    rw [e] at h7
    rw [h7]
    exact hk
end Go.Abs.Label
end

section
/- Conditions and their equations, printed by a program. -/
open Go.Proofs
set_option maxRecDepth 100000
set_option linter.unusedVariables false
namespace Go.Abs.Label
def vc75 (w : Int) (rs : List (List Int × Int)) (b : Int) (x : Int) (k : AVal → List Cont → Prop) : Prop :=
  Go.Abs.Loop (σ := (Int × (Int × ((List ((List Int) × Int)) × (Int × (Int × ((List Int) × Unit))))))) (fun K5 x5 =>
    (Go.Abs.Label.v78.p (x5.2.1, (x5.2.2.1, (x5.2.2.2.2.1, ())))) ∧
    (Go.Abs.Label.v79.p (x5.2.1, (x5.2.2.1, (x5.2.2.2.2.1, ())))) ∧
    Go.Abs.Loop (σ := (Int × ((List ((List Int) × Int)) × (Int × ((List Int) × (Int × (Int × (Int × ((List ((List Int) × Int)) × (Int × (Int × ((List ((List Int) × Int)) × (Int × (Int × ((List Int) × Unit))))))))))))))) (fun K7 x7 =>
      br ((decide (x7.2.2.2.2.1 < (12 : Int))))
       (∃ h9 : (((0 : Int) ≤ x7.2.2.2.2.1) ∧ ((Int.toNat x7.2.2.2.2.1) < (List.length x7.2.2.2.1))),
       ((Int.toNat x7.2.2.2.2.1) < (12 : Nat)) ∧
       ((List.length x7.2.2.2.1) = (12 : Nat)) ∧
       br (((decide (x7.2.2.2.2.1 < (((List.length x7.2.1) : Nat) : Int))) == Bool.true))
        (br ((((x7.2.2.2.1[(Int.toNat x7.2.2.2.2.1)]'h9.2) == (0 : Int)) == Bool.true))
         (∃ h10 : (((0 : Int) ≤ x7.2.2.2.2.1) ∧ ((Int.toNat x7.2.2.2.2.1) < (List.length x7.2.1))),
         br (((decide ((x7.2.1[(Int.toNat x7.2.2.2.2.1)]'h10.2).2 ≥ (0 : Int))) == Bool.true))
          (∃ h11 : (((0 : Int) ≤ x7.2.2.2.2.1) ∧ ((Int.toNat x7.2.2.2.2.1) < (List.length x7.2.1))),
          (Go.Abs.Label.v57.p ((0 : Int), ((x7.2.1[(Int.toNat x7.2.2.2.2.1)]'h11.2).2, ()))) ∧
          (Go.Abs.Label.v59.p (x7.2.2.1, ((Go.Abs.Label.andI (0 : Int) (x7.2.1[(Int.toNat x7.2.2.2.2.1)]'h11.2).2), ()))) ∧
          br (((Bool.not (Go.Abs.Label.hasI x7.2.2.1 (Go.Abs.Label.andI (0 : Int) (x7.2.1[(Int.toNat x7.2.2.2.2.1)]'h11.2).2))) == Bool.true))
           (∃ h12 : (((0 : Int) ≤ x7.2.2.2.2.1) ∧ ((Int.toNat x7.2.2.2.2.1) < (List.length x7.2.2.2.2.2.2.2.2.2.2.1))),
           (Go.Abs.Label.v57.p (x7.2.2.2.2.2.2.2.2.2.2.2.2.1, ((x7.2.2.2.2.2.2.2.2.2.2.1[(Int.toNat x7.2.2.2.2.1)]'h12.2).2, ()))) ∧
           (((0 : Int) ≤ (((List.length x7.2.2.2.2.2.2.2.2.2.2.2.2.2.1) : Nat) : Int)) ∧ (((((List.length x7.2.2.2.2.2.2.2.2.2.2.2.2.2.1) : Nat) : Int) ≤ (((List.length x7.2.2.2.2.2.2.2.2.2.2.2.2.2.1) : Nat) : Int)) ∧ ((((List.length x7.2.2.2.2.2.2.2.2.2.2.2.2.2.1) : Nat) : Int) = (((List.length x7.2.2.2.2.2.2.2.2.2.2.2.2.2.1) : Nat) : Int)))) ∧
           (((Int.toNat (((List.length x7.2.2.2.2.2.2.2.2.2.2.2.2.2.1) : Nat) : Int)) + (List.length (x7.2.2.2.2.1 :: ([] : List Int)))) ≤ Go.Abs.big) ∧
           ((0 : Nat) < (List.length (x7.2.2.2.2.1 :: ([] : List Int)))) ∧
           (K5 (x7.2.2.2.2.2.1, (x7.2.2.2.2.2.2.2.2.2.1, (x7.2.2.2.2.2.2.2.2.2.2.1, (x7.2.2.2.2.2.2.2.2.2.2.2.1, ((Go.Abs.Label.andI x7.2.2.2.2.2.2.2.2.2.2.2.2.1 (x7.2.2.2.2.2.2.2.2.2.2.1[(Int.toNat x7.2.2.2.2.1)]'h12.2).2), (((List.take (Int.toNat (((List.length x7.2.2.2.2.2.2.2.2.2.2.2.2.2.1) : Nat) : Int)) (List.drop (0 : Nat) x7.2.2.2.2.2.2.2.2.2.2.2.2.2.1)) ++ (x7.2.2.2.2.1 :: ([] : List Int))), ()))))))))
           ((Go.Abs.fitsK Go.IntKind.i64 (x7.2.2.2.2.1 + (1 : Int))) ∧
           (K7 (x7.1, (x7.2.1, (x7.2.2.1, (x7.2.2.2.1, ((x7.2.2.2.2.1 + (1 : Int)), (x7.2.2.2.2.2.1, (x7.2.2.2.2.2.2.1, (x7.2.2.2.2.2.2.2.1, (x7.2.2.2.2.2.2.2.2.1, (x7.2.2.2.2.2.2.2.2.2.1, (x7.2.2.2.2.2.2.2.2.2.2.1, (x7.2.2.2.2.2.2.2.2.2.2.2.1, (x7.2.2.2.2.2.2.2.2.2.2.2.2.1, (x7.2.2.2.2.2.2.2.2.2.2.2.2.2.1, ())))))))))))))))))
          ((Go.Abs.fitsK Go.IntKind.i64 (x7.2.2.2.2.1 + (1 : Int))) ∧
          (K7 (x7.1, (x7.2.1, (x7.2.2.1, (x7.2.2.2.1, ((x7.2.2.2.2.1 + (1 : Int)), (x7.2.2.2.2.2.1, (x7.2.2.2.2.2.2.1, (x7.2.2.2.2.2.2.2.1, (x7.2.2.2.2.2.2.2.2.1, (x7.2.2.2.2.2.2.2.2.2.1, (x7.2.2.2.2.2.2.2.2.2.2.1, (x7.2.2.2.2.2.2.2.2.2.2.2.1, (x7.2.2.2.2.2.2.2.2.2.2.2.2.1, (x7.2.2.2.2.2.2.2.2.2.2.2.2.2.1, ())))))))))))))))))
         ((Go.Abs.fitsK Go.IntKind.i64 (x7.2.2.2.2.1 + (1 : Int))) ∧
         (K7 (x7.1, (x7.2.1, (x7.2.2.1, (x7.2.2.2.1, ((x7.2.2.2.2.1 + (1 : Int)), (x7.2.2.2.2.2.1, (x7.2.2.2.2.2.2.1, (x7.2.2.2.2.2.2.2.1, (x7.2.2.2.2.2.2.2.2.1, (x7.2.2.2.2.2.2.2.2.2.1, (x7.2.2.2.2.2.2.2.2.2.2.1, (x7.2.2.2.2.2.2.2.2.2.2.2.1, (x7.2.2.2.2.2.2.2.2.2.2.2.2.1, (x7.2.2.2.2.2.2.2.2.2.2.2.2.2.1, ())))))))))))))))))
        ((Go.Abs.fitsK Go.IntKind.i64 (x7.2.2.2.2.1 + (1 : Int))) ∧
        (K7 (x7.1, (x7.2.1, (x7.2.2.1, (x7.2.2.2.1, ((x7.2.2.2.2.1 + (1 : Int)), (x7.2.2.2.2.2.1, (x7.2.2.2.2.2.2.1, (x7.2.2.2.2.2.2.2.1, (x7.2.2.2.2.2.2.2.2.1, (x7.2.2.2.2.2.2.2.2.2.1, (x7.2.2.2.2.2.2.2.2.2.2.1, (x7.2.2.2.2.2.2.2.2.2.2.2.1, (x7.2.2.2.2.2.2.2.2.2.2.2.2.1, (x7.2.2.2.2.2.2.2.2.2.2.2.2.2.1, ())))))))))))))))))
       (br ((decide (x7.2.2.2.2.2.1 ≥ (0 : Int))))
        ((Go.Abs.Label.v57.p ((0 : Int), (x7.2.2.2.2.2.1, ()))) ∧
        (Go.Abs.Label.v59.p (x7.2.2.2.2.2.2.2.2.2.2.2.2.1, ((Go.Abs.Label.andI (0 : Int) x7.2.2.2.2.2.1), ()))) ∧
        br ((Bool.not (Go.Abs.Label.hasI x7.2.2.2.2.2.2.2.2.2.2.2.2.1 (Go.Abs.Label.andI (0 : Int) x7.2.2.2.2.2.1))))
         ((k (Go.Abs.AVal.tup ((Go.Abs.AVal.imm (Go.Abs.Ty.int Go.IntKind.i64) ([] : List Int) Bool.false) :: ((Go.Abs.AVal.bool Bool.false) :: []))) []))
         ((Go.Abs.Label.v92.p (x7.2.2.2.2.2.2.2.2.2.2.2.2.2.1, ())) ∧
         (Go.Abs.fitsK Go.IntKind.i64 ((((List.length x7.2.2.2.2.2.2.2.2.2.2.2.2.2.1) : Nat) : Int) - (1 : Int))) ∧
         Go.Abs.Loop (σ := ((List Int) × (Int × (Int × ((List Int) × (Int × ((List ((List Int) × Int)) × (Int × (Int × ((List Int) × Unit)))))))))) (fun K9 x9 =>
           br ((decide (x9.2.1 ≥ (0 : Int))))
            (∃ h11 : (((0 : Int) ≤ x9.2.1) ∧ ((Int.toNat x9.2.1) < (List.length x9.1))),
            ∃ h12 : (((0 : Int) ≤ (x9.1[(Int.toNat x9.2.1)]'h11.2)) ∧ ((Int.toNat (x9.1[(Int.toNat x9.2.1)]'h11.2)) < (List.length x9.2.2.2.2.2.1))),
            br (((decide ((x9.2.2.2.2.2.1[(Int.toNat (x9.1[(Int.toNat x9.2.1)]'h11.2))]'h12.2).2 < (0 : Int))) == Bool.false))
             ((Go.Abs.Label.v57.p ((0 : Int), ((x9.2.2.2.2.2.1[(Int.toNat (x9.1[(Int.toNat x9.2.1)]'h11.2))]'h12.2).2, ()))) ∧
             (Go.Abs.Label.v59.p (x9.2.2.2.2.2.2.2.1, ((Go.Abs.Label.andI (0 : Int) (x9.2.2.2.2.2.1[(Int.toNat (x9.1[(Int.toNat x9.2.1)]'h11.2))]'h12.2).2), ()))) ∧
             br ((Go.Abs.Label.hasI x9.2.2.2.2.2.2.2.1 (Go.Abs.Label.andI (0 : Int) (x9.2.2.2.2.2.1[(Int.toNat (x9.1[(Int.toNat x9.2.1)]'h11.2))]'h12.2).2)))
              ((((List.length x9.2.2.2.2.2.2.2.2.1) + (List.length ((x9.1[(Int.toNat x9.2.1)]'h11.2) :: ([] : List Int)))) ≤ Go.Abs.big) ∧
              (Go.Abs.Label.v73.p ((x9.2.2.2.2.2.1[(Int.toNat (x9.1[(Int.toNat x9.2.1)]'h11.2))]'h12.2).1, ())) ∧
              (Go.Abs.fitsK Go.IntKind.i64 (x9.2.1 - (1 : Int))) ∧
              (K9 (x9.1, ((x9.2.1 - (1 : Int)), (x9.2.2.1, (x9.2.2.2.1, (x9.2.2.2.2.1, (x9.2.2.2.2.2.1, (x9.2.2.2.2.2.2.1, ((Go.Abs.bitsA Go.BinOp.andNot Go.IntKind.i64 (Go.Abs.bitsA Go.BinOp.or Go.IntKind.i64 x9.2.2.2.2.2.2.2.1 (Go.Abs.Label.bitsI (x9.2.2.2.2.2.1[(Int.toNat (x9.1[(Int.toNat x9.2.1)]'h11.2))]'h12.2).1)) x9.2.2.2.2.2.2.1), ((x9.2.2.2.2.2.2.2.2.1 ++ ((x9.1[(Int.toNat x9.2.1)]'h11.2) :: ([] : List Int))), ())))))))))))
              ((Go.Abs.fitsK Go.IntKind.i64 (x9.2.1 - (1 : Int))) ∧
              (K9 (x9.1, ((x9.2.1 - (1 : Int)), (x9.2.2.1, (x9.2.2.2.1, (x9.2.2.2.2.1, (x9.2.2.2.2.2.1, (x9.2.2.2.2.2.2.1, (x9.2.2.2.2.2.2.2.1, (x9.2.2.2.2.2.2.2.2.1, ()))))))))))))
             ((((List.length x9.2.2.2.2.2.2.2.2.1) + (List.length ((x9.1[(Int.toNat x9.2.1)]'h11.2) :: ([] : List Int)))) ≤ Go.Abs.big) ∧
             (Go.Abs.Label.v73.p ((x9.2.2.2.2.2.1[(Int.toNat (x9.1[(Int.toNat x9.2.1)]'h11.2))]'h12.2).1, ())) ∧
             (Go.Abs.fitsK Go.IntKind.i64 (x9.2.1 - (1 : Int))) ∧
             (K9 (x9.1, ((x9.2.1 - (1 : Int)), (x9.2.2.1, (x9.2.2.2.1, (x9.2.2.2.2.1, (x9.2.2.2.2.2.1, (x9.2.2.2.2.2.2.1, ((Go.Abs.bitsA Go.BinOp.andNot Go.IntKind.i64 (Go.Abs.bitsA Go.BinOp.or Go.IntKind.i64 x9.2.2.2.2.2.2.2.1 (Go.Abs.Label.bitsI (x9.2.2.2.2.2.1[(Int.toNat (x9.1[(Int.toNat x9.2.1)]'h11.2))]'h12.2).1)) x9.2.2.2.2.2.2.1), ((x9.2.2.2.2.2.2.2.2.1 ++ ((x9.1[(Int.toNat x9.2.1)]'h11.2) :: ([] : List Int))), ()))))))))))))
            ((Go.Abs.Label.v93.p (x9.2.2.2.2.2.2.2.2.1, ())) ∧
            (Go.Abs.Label.v94.p (x9.2.2.2.2.1, (x9.2.2.2.2.2.1, (x9.2.2.2.2.2.2.1, (x9.2.2.1, ((List.reverse x9.2.2.2.2.2.2.2.2.1), ())))))) ∧
            (k (Go.Abs.AVal.tup ((Go.Abs.AVal.imm (Go.Abs.Ty.int Go.IntKind.i64) (Go.Abs.Label.lessL x9.2.2.2.2.1 x9.2.2.2.2.2.1 x9.2.2.2.2.2.2.1 x9.2.2.1 (List.reverse x9.2.2.2.2.2.2.2.2.1)) Bool.false) :: ((Go.Abs.AVal.bool Bool.true) :: []))) []))) ((x7.2.2.2.2.2.2.2.2.2.2.2.2.2.1, (((((List.length x7.2.2.2.2.2.2.2.2.2.2.2.2.2.1) : Nat) : Int) - (1 : Int)), (x7.2.2.2.2.2.1, (x7.2.2.2.2.2.2.2.2.2.2.2.2.2.1, (x7.2.2.2.2.2.2.2.2.2.1, (x7.2.2.2.2.2.2.2.2.2.2.1, (x7.2.2.2.2.2.2.2.2.2.2.2.1, ((Go.Abs.Label.andI (0 : Int) x7.2.2.2.2.2.1), (([] : List Int), ()))))))))))))
        ((Go.Abs.Label.v83e.p (x7.2.2.2.2.2.2.2.2.2.2.1, (x7.2.2.2.2.2.2.2.2.2.2.2.2.1, ()))) ∧
        br ((decide ((Go.Abs.Label.indexOf (Go.Abs.Label.ban3 x7.2.2.2.2.2.2.2.2.2.2.2.2.1) x7.2.2.2.2.2.2.2.2.2.2.1) < (0 : Int))))
         ((k (Go.Abs.AVal.tup ((Go.Abs.AVal.imm (Go.Abs.Ty.int Go.IntKind.i64) ([] : List Int) Bool.false) :: ((Go.Abs.AVal.bool Bool.false) :: []))) []))
         (∃ h9 : (((0 : Int) ≤ (Go.Abs.Label.indexOf (Go.Abs.Label.ban3 x7.2.2.2.2.2.2.2.2.2.2.2.2.1) x7.2.2.2.2.2.2.2.2.2.2.1)) ∧ ((Int.toNat (Go.Abs.Label.indexOf (Go.Abs.Label.ban3 x7.2.2.2.2.2.2.2.2.2.2.2.2.1) x7.2.2.2.2.2.2.2.2.2.2.1)) < (List.length x7.2.2.2.2.2.2.2.2.2.2.1))),
         (Go.Abs.Label.v73.p ((x7.2.2.2.2.2.2.2.2.2.2.1[(Int.toNat (Go.Abs.Label.indexOf (Go.Abs.Label.ban3 x7.2.2.2.2.2.2.2.2.2.2.2.2.1) x7.2.2.2.2.2.2.2.2.2.2.1))]'h9.2).1, ())) ∧
         (((List.length x7.2.2.2.2.2.2.2.2.2.2.2.2.2.1) + (List.length ((Go.Abs.Label.indexOf (Go.Abs.Label.ban3 x7.2.2.2.2.2.2.2.2.2.2.2.2.1) x7.2.2.2.2.2.2.2.2.2.2.1) :: ([] : List Int)))) ≤ Go.Abs.big) ∧
         (Go.Abs.Label.v92.p ((x7.2.2.2.2.2.2.2.2.2.2.2.2.2.1 ++ ((Go.Abs.Label.indexOf (Go.Abs.Label.ban3 x7.2.2.2.2.2.2.2.2.2.2.2.2.1) x7.2.2.2.2.2.2.2.2.2.2.1) :: ([] : List Int))), ())) ∧
         (Go.Abs.fitsK Go.IntKind.i64 ((((List.length (x7.2.2.2.2.2.2.2.2.2.2.2.2.2.1 ++ ((Go.Abs.Label.indexOf (Go.Abs.Label.ban3 x7.2.2.2.2.2.2.2.2.2.2.2.2.1) x7.2.2.2.2.2.2.2.2.2.2.1) :: ([] : List Int)))) : Nat) : Int) - (1 : Int))) ∧
         Go.Abs.Loop (σ := ((List Int) × (Int × (Int × ((List Int) × (Int × ((List ((List Int) × Int)) × (Int × (Int × ((List Int) × Unit)))))))))) (fun K10 x10 =>
           br ((decide (x10.2.1 ≥ (0 : Int))))
            (∃ h12 : (((0 : Int) ≤ x10.2.1) ∧ ((Int.toNat x10.2.1) < (List.length x10.1))),
            ∃ h13 : (((0 : Int) ≤ (x10.1[(Int.toNat x10.2.1)]'h12.2)) ∧ ((Int.toNat (x10.1[(Int.toNat x10.2.1)]'h12.2)) < (List.length x10.2.2.2.2.2.1))),
            br (((decide ((x10.2.2.2.2.2.1[(Int.toNat (x10.1[(Int.toNat x10.2.1)]'h12.2))]'h13.2).2 < (0 : Int))) == Bool.false))
             ((Go.Abs.Label.v57.p ((0 : Int), ((x10.2.2.2.2.2.1[(Int.toNat (x10.1[(Int.toNat x10.2.1)]'h12.2))]'h13.2).2, ()))) ∧
             (Go.Abs.Label.v59.p (x10.2.2.2.2.2.2.2.1, ((Go.Abs.Label.andI (0 : Int) (x10.2.2.2.2.2.1[(Int.toNat (x10.1[(Int.toNat x10.2.1)]'h12.2))]'h13.2).2), ()))) ∧
             br ((Go.Abs.Label.hasI x10.2.2.2.2.2.2.2.1 (Go.Abs.Label.andI (0 : Int) (x10.2.2.2.2.2.1[(Int.toNat (x10.1[(Int.toNat x10.2.1)]'h12.2))]'h13.2).2)))
              ((((List.length x10.2.2.2.2.2.2.2.2.1) + (List.length ((x10.1[(Int.toNat x10.2.1)]'h12.2) :: ([] : List Int)))) ≤ Go.Abs.big) ∧
              (Go.Abs.Label.v73.p ((x10.2.2.2.2.2.1[(Int.toNat (x10.1[(Int.toNat x10.2.1)]'h12.2))]'h13.2).1, ())) ∧
              (Go.Abs.fitsK Go.IntKind.i64 (x10.2.1 - (1 : Int))) ∧
              (K10 (x10.1, ((x10.2.1 - (1 : Int)), (x10.2.2.1, (x10.2.2.2.1, (x10.2.2.2.2.1, (x10.2.2.2.2.2.1, (x10.2.2.2.2.2.2.1, ((Go.Abs.bitsA Go.BinOp.andNot Go.IntKind.i64 (Go.Abs.bitsA Go.BinOp.or Go.IntKind.i64 x10.2.2.2.2.2.2.2.1 (Go.Abs.Label.bitsI (x10.2.2.2.2.2.1[(Int.toNat (x10.1[(Int.toNat x10.2.1)]'h12.2))]'h13.2).1)) x10.2.2.2.2.2.2.1), ((x10.2.2.2.2.2.2.2.2.1 ++ ((x10.1[(Int.toNat x10.2.1)]'h12.2) :: ([] : List Int))), ())))))))))))
              ((Go.Abs.fitsK Go.IntKind.i64 (x10.2.1 - (1 : Int))) ∧
              (K10 (x10.1, ((x10.2.1 - (1 : Int)), (x10.2.2.1, (x10.2.2.2.1, (x10.2.2.2.2.1, (x10.2.2.2.2.2.1, (x10.2.2.2.2.2.2.1, (x10.2.2.2.2.2.2.2.1, (x10.2.2.2.2.2.2.2.2.1, ()))))))))))))
             ((((List.length x10.2.2.2.2.2.2.2.2.1) + (List.length ((x10.1[(Int.toNat x10.2.1)]'h12.2) :: ([] : List Int)))) ≤ Go.Abs.big) ∧
             (Go.Abs.Label.v73.p ((x10.2.2.2.2.2.1[(Int.toNat (x10.1[(Int.toNat x10.2.1)]'h12.2))]'h13.2).1, ())) ∧
             (Go.Abs.fitsK Go.IntKind.i64 (x10.2.1 - (1 : Int))) ∧
             (K10 (x10.1, ((x10.2.1 - (1 : Int)), (x10.2.2.1, (x10.2.2.2.1, (x10.2.2.2.2.1, (x10.2.2.2.2.2.1, (x10.2.2.2.2.2.2.1, ((Go.Abs.bitsA Go.BinOp.andNot Go.IntKind.i64 (Go.Abs.bitsA Go.BinOp.or Go.IntKind.i64 x10.2.2.2.2.2.2.2.1 (Go.Abs.Label.bitsI (x10.2.2.2.2.2.1[(Int.toNat (x10.1[(Int.toNat x10.2.1)]'h12.2))]'h13.2).1)) x10.2.2.2.2.2.2.1), ((x10.2.2.2.2.2.2.2.2.1 ++ ((x10.1[(Int.toNat x10.2.1)]'h12.2) :: ([] : List Int))), ()))))))))))))
            ((Go.Abs.Label.v93.p (x10.2.2.2.2.2.2.2.2.1, ())) ∧
            (Go.Abs.Label.v94.p (x10.2.2.2.2.1, (x10.2.2.2.2.2.1, (x10.2.2.2.2.2.2.1, (x10.2.2.1, ((List.reverse x10.2.2.2.2.2.2.2.2.1), ())))))) ∧
            (k (Go.Abs.AVal.tup ((Go.Abs.AVal.imm (Go.Abs.Ty.int Go.IntKind.i64) (Go.Abs.Label.lessL x10.2.2.2.2.1 x10.2.2.2.2.2.1 x10.2.2.2.2.2.2.1 x10.2.2.1 (List.reverse x10.2.2.2.2.2.2.2.2.1)) Bool.false) :: ((Go.Abs.AVal.bool Bool.true) :: []))) []))) (((x7.2.2.2.2.2.2.2.2.2.2.2.2.2.1 ++ ((Go.Abs.Label.indexOf (Go.Abs.Label.ban3 x7.2.2.2.2.2.2.2.2.2.2.2.2.1) x7.2.2.2.2.2.2.2.2.2.2.1) :: ([] : List Int))), (((((List.length (x7.2.2.2.2.2.2.2.2.2.2.2.2.2.1 ++ ((Go.Abs.Label.indexOf (Go.Abs.Label.ban3 x7.2.2.2.2.2.2.2.2.2.2.2.2.1) x7.2.2.2.2.2.2.2.2.2.2.1) :: ([] : List Int)))) : Nat) : Int) - (1 : Int)), (x7.2.2.2.2.2.1, ((x7.2.2.2.2.2.2.2.2.2.2.2.2.2.1 ++ ((Go.Abs.Label.indexOf (Go.Abs.Label.ban3 x7.2.2.2.2.2.2.2.2.2.2.2.2.1) x7.2.2.2.2.2.2.2.2.2.2.1) :: ([] : List Int))), (x7.2.2.2.2.2.2.2.2.2.1, (x7.2.2.2.2.2.2.2.2.2.2.1, (x7.2.2.2.2.2.2.2.2.2.2.2.1, ((Go.Abs.Label.bitsI (x7.2.2.2.2.2.2.2.2.2.2.1[(Int.toNat (Go.Abs.Label.indexOf (Go.Abs.Label.ban3 x7.2.2.2.2.2.2.2.2.2.2.2.2.1) x7.2.2.2.2.2.2.2.2.2.2.1))]'h9.2).1), (([] : List Int), ())))))))))))))) ((x5.2.1, (x5.2.2.1, (x5.2.2.2.2.1, ((Go.Abs.Label.wants x5.2.2.1 x5.2.2.2.2.1), ((0 : Int), (x5.1, (x5.2.1, (x5.2.2.1, (x5.2.2.2.2.1, (x5.2.1, (x5.2.2.1, (x5.2.2.2.1, (x5.2.2.2.2.1, (x5.2.2.2.2.2.1, ())))))))))))))))) ((x, (w, (rs, (b, (b, (([] : List Int), ())))))))
theorem eq75 (w : Int) (rs : List (List Int × Int)) (b : Int) (x : Int) (k : AVal → List Cont → Prop) : awpF (envOf [(78, mkC [v78]), (57, mkC [v57]), (59, mkC [v59]), (79, mkC [v79]), (83, mkC [v83e]), (73, mkC [v73]), (92, mkC [v92]), (93, mkC [v93]), (94, mkC [v94])]) Tryz.prog kt 75 true Tryz.f75 (v75.args (w, rs, b, x, ())) (v75.conts (w, rs, b, x, ())) k = vc75 w rs b x k := by kernel_rfl
theorem tx75 : (Tryz.f75.body.map Code.textsOk).getD true = true := by kernel_rfl

end Go.Abs.Label
end

section
/- The label's functions keep their contracts: steps. -/
open Go.Proofs
set_option maxRecDepth 100000
set_option linter.unusedVariables false
namespace Go.Abs.Label

theorem rule_at {rs : List (List Int × Int)} {i : Int} (h0 : 0 ≤ i) (h : i.toNat < rs.length) : ruleAt rs i = rs[i.toNat] := by
  unfold ruleAt
  rw [List.getD_eq_getElem?_getD, List.getElem?_eq_getElem h]; rfl
theorem or_lt2 {a b : Nat} (ha : a < 1024) (hb : b < 1024) : a ||| b < 1024 := Nat.or_lt_two_pow (n := 10) ha hb
def backN (rs : List (List Int × Int)) (b need : Nat) (out : List Int) (j : Nat) : Nat × List Int := (out.reverse.take j).foldl (backS rs b) (need, [])
theorem backN_succ {rs : List (List Int × Int)} {b need : Nat} {out : List Int} {j : Nat} (hj : j < out.length) : backN rs b need out (j + 1) = backS rs b (backN rs b need out j) (out[out.length - 1 - j]'(by omega)) := by
  unfold backN
  rw [List.take_succ_eq_append_getElem (by simpa using hj), List.foldl_append, List.getElem_reverse]; rfl
theorem has_one' {c : Nat} {t : Int} (c0 : Int) (hc : c0 = (c : Int)) : hasI c0 (andI 0 t) = c.testBit t.toNat := by
  subst hc
  unfold hasI andI
  rw [Int.toNat_natCast, Int.toNat_natCast]
  exact has_one
theorem bits_zero : isB 0 := ⟨by omega, by omega⟩

theorem back_loop {k : AVal → List Cont → Prop} {w : Int} {rs : List (List Int × Int)} {b : Nat} {x : Int} {out : List Int} {need : Nat} (hg : Gd w rs) (hb : b < 1024) (hout : ∀ i ∈ out, 0 ≤ i ∧ i.toNat < rs.length) (hol : out.length ≤ 11) (hneed : need < 1024)
    (hk : k (.tup [.imm (.int .i64) (lessL w rs (b : Int) x (backOf rs b need out)) false, .bool true]) []) :
    Go.Abs.Loop (σ := ((List Int) × (Int × (Int × ((List Int) × (Int × ((List ((List Int) × Int)) × (Int × (Int × ((List Int) × Unit)))))))))) (fun K9 x9 =>
           br ((decide (x9.2.1 ≥ (0 : Int))))
            (∃ h11 : (((0 : Int) ≤ x9.2.1) ∧ ((Int.toNat x9.2.1) < (List.length x9.1))),
            ∃ h12 : (((0 : Int) ≤ (x9.1[(Int.toNat x9.2.1)]'h11.2)) ∧ ((Int.toNat (x9.1[(Int.toNat x9.2.1)]'h11.2)) < (List.length x9.2.2.2.2.2.1))),
            br (((decide ((x9.2.2.2.2.2.1[(Int.toNat (x9.1[(Int.toNat x9.2.1)]'h11.2))]'h12.2).2 < (0 : Int))) == Bool.false))
             ((Go.Abs.Label.v57.p ((0 : Int), ((x9.2.2.2.2.2.1[(Int.toNat (x9.1[(Int.toNat x9.2.1)]'h11.2))]'h12.2).2, ()))) ∧
             (Go.Abs.Label.v59.p (x9.2.2.2.2.2.2.2.1, ((Go.Abs.Label.andI (0 : Int) (x9.2.2.2.2.2.1[(Int.toNat (x9.1[(Int.toNat x9.2.1)]'h11.2))]'h12.2).2), ()))) ∧
             br ((Go.Abs.Label.hasI x9.2.2.2.2.2.2.2.1 (Go.Abs.Label.andI (0 : Int) (x9.2.2.2.2.2.1[(Int.toNat (x9.1[(Int.toNat x9.2.1)]'h11.2))]'h12.2).2)))
              ((((List.length x9.2.2.2.2.2.2.2.2.1) + (List.length ((x9.1[(Int.toNat x9.2.1)]'h11.2) :: ([] : List Int)))) ≤ Go.Abs.big) ∧
              (Go.Abs.Label.v73.p ((x9.2.2.2.2.2.1[(Int.toNat (x9.1[(Int.toNat x9.2.1)]'h11.2))]'h12.2).1, ())) ∧
              (Go.Abs.fitsK Go.IntKind.i64 (x9.2.1 - (1 : Int))) ∧
              (K9 (x9.1, ((x9.2.1 - (1 : Int)), (x9.2.2.1, (x9.2.2.2.1, (x9.2.2.2.2.1, (x9.2.2.2.2.2.1, (x9.2.2.2.2.2.2.1, ((Go.Abs.bitsA Go.BinOp.andNot Go.IntKind.i64 (Go.Abs.bitsA Go.BinOp.or Go.IntKind.i64 x9.2.2.2.2.2.2.2.1 (Go.Abs.Label.bitsI (x9.2.2.2.2.2.1[(Int.toNat (x9.1[(Int.toNat x9.2.1)]'h11.2))]'h12.2).1)) x9.2.2.2.2.2.2.1), ((x9.2.2.2.2.2.2.2.2.1 ++ ((x9.1[(Int.toNat x9.2.1)]'h11.2) :: ([] : List Int))), ())))))))))))
              ((Go.Abs.fitsK Go.IntKind.i64 (x9.2.1 - (1 : Int))) ∧
              (K9 (x9.1, ((x9.2.1 - (1 : Int)), (x9.2.2.1, (x9.2.2.2.1, (x9.2.2.2.2.1, (x9.2.2.2.2.2.1, (x9.2.2.2.2.2.2.1, (x9.2.2.2.2.2.2.2.1, (x9.2.2.2.2.2.2.2.2.1, ()))))))))))))
             ((((List.length x9.2.2.2.2.2.2.2.2.1) + (List.length ((x9.1[(Int.toNat x9.2.1)]'h11.2) :: ([] : List Int)))) ≤ Go.Abs.big) ∧
             (Go.Abs.Label.v73.p ((x9.2.2.2.2.2.1[(Int.toNat (x9.1[(Int.toNat x9.2.1)]'h11.2))]'h12.2).1, ())) ∧
             (Go.Abs.fitsK Go.IntKind.i64 (x9.2.1 - (1 : Int))) ∧
             (K9 (x9.1, ((x9.2.1 - (1 : Int)), (x9.2.2.1, (x9.2.2.2.1, (x9.2.2.2.2.1, (x9.2.2.2.2.2.1, (x9.2.2.2.2.2.2.1, ((Go.Abs.bitsA Go.BinOp.andNot Go.IntKind.i64 (Go.Abs.bitsA Go.BinOp.or Go.IntKind.i64 x9.2.2.2.2.2.2.2.1 (Go.Abs.Label.bitsI (x9.2.2.2.2.2.1[(Int.toNat (x9.1[(Int.toNat x9.2.1)]'h11.2))]'h12.2).1)) x9.2.2.2.2.2.2.1), ((x9.2.2.2.2.2.2.2.2.1 ++ ((x9.1[(Int.toNat x9.2.1)]'h11.2) :: ([] : List Int))), ()))))))))))))
            ((Go.Abs.Label.v93.p (x9.2.2.2.2.2.2.2.2.1, ())) ∧
            (Go.Abs.Label.v94.p (x9.2.2.2.2.1, (x9.2.2.2.2.2.1, (x9.2.2.2.2.2.2.1, (x9.2.2.1, ((List.reverse x9.2.2.2.2.2.2.2.2.1), ())))))) ∧
            (k (Go.Abs.AVal.tup ((Go.Abs.AVal.imm (Go.Abs.Ty.int Go.IntKind.i64) (Go.Abs.Label.lessL x9.2.2.2.2.1 x9.2.2.2.2.2.1 x9.2.2.2.2.2.2.1 x9.2.2.1 (List.reverse x9.2.2.2.2.2.2.2.2.1)) Bool.false) :: ((Go.Abs.AVal.bool Bool.true) :: []))) []))) (out, (((out.length : Nat) : Int) - (1 : Int)), x, out, w, rs, (b : Int), (need : Int), ([] : List Int), ()) := by
  refine Loop.upto (fun j => (out, ((out.length : Nat) : Int) - 1 - (j : Int), x, out, w, rs, (b : Int), ((backN rs b need out j).1 : Int), (backN rs b need out j).2, ())) (fun j => (backN rs b need out j).1 < 1024 ∧ (backN rs b need out j).2.length ≤ j) out.length (by simp [backN]) ⟨hneed, Nat.zero_le _⟩ ?_ ?_
  · intro j K_j hj hp_j hK_j
    dsimp only
    rw [br_decide]
    refine ⟨fun _ => ?_, fun h => absurd hj (by omega)⟩
    try simp only [Int.toNat_natCast]
    obtain ⟨hp1, hp2⟩ := hp_j
    have et : Int.toNat (((out.length : Nat) : Int) - 1 - (j : Int)) = out.length - 1 - j := by omega
    have hi : out.length - 1 - j < out.length := by omega
    have hoi := hout _ (List.getElem_mem hi)
    have hN := backN_succ (rs := rs) (b := b) (need := need) hj
    simp only [et]
    refine ⟨⟨by omega, hi⟩, ?_⟩
    obtain ⟨e, hei⟩ : ∃ e, out[out.length - 1 - j]'hi = e := ⟨_, rfl⟩
    simp only [hei] at hoi hN ⊢
    refine ⟨hoi, ?_⟩
    have hr := List.getElem_mem hoi.2
    have hth := gd_then hg _ hr
    have hif := gd_if hg hr
    have hra := rule_at hoi.1 hoi.2
    unfold backS at hN
    rw [hra] at hN
    obtain ⟨r, hrr⟩ : ∃ r, rs[e.toNat]'hoi.2 = r := ⟨_, rfl⟩
    simp only [hrr] at hr hth hif hN ⊢
    have hs : (((out.length : Nat) : Int) - 1 - (j : Int)) - 1 = ((out.length : Nat) : Int) - 1 - ((j + 1 : Nat) : Int) := by omega
    obtain ⟨c, hc⟩ : ∃ c, backN rs b need out j = c := ⟨_, rfl⟩
    simp only [hc] at hp1 hp2 hN hK_j ⊢
    have hor : bitsA .andNot .i64 (bitsA .or .i64 ((c.1 : Nat) : Int) (bitsI r.1)) (b : Int) = ((andNot (c.1 ||| bitsL r.1) b : Nat) : Int) := by
      have hl := bitsL_lt hif.2
      unfold bitsI
      rw [lor_nat c.1 (bitsL r.1) (by omega) (by omega), notI_nat (or_lt2 hp1 hl) hb]
    have yes : (r.2 < 0 ∨ c.1.testBit r.2.toNat = true) → backN rs b need out (j + 1) = (andNot (c.1 ||| bitsL r.1) b, c.2 ++ [e]) := fun h => by rw [hN, if_pos h]
    have no : ¬ (r.2 < 0 ∨ c.1.testBit r.2.toNat = true) → backN rs b need out (j + 1) = c := fun h => by rw [hN, if_neg h]
    have hbig : c.2.length + [e].length ≤ big := by
      show c.2.length + 1 ≤ 1099511627776
      omega
    have h73 : v73.p (r.1, ()) := ⟨(show r.1.length ≤ 1000 by have := hif.1; omega), hif.2⟩
    have hf : fitsK .i64 ((((out.length : Nat) : Int) - 1 - (j : Int)) - 1) := fits64 (by omega) (by omega)
    have fin : ∀ h : (r.2 < 0 ∨ c.1.testBit r.2.toNat = true), K_j (out, (((out.length : Nat) : Int) - 1 - (j : Int)) - 1, x, out, w, rs, (b : Int), bitsA .andNot .i64 (bitsA .or .i64 ((c.1 : Nat) : Int) (bitsI r.1)) (b : Int), c.2 ++ [e], ()) := fun h => by
      have := hK_j (by rw [yes h]; exact ⟨notI_lt (or_lt2 hp1 (bitsL_lt hif.2)), by simp; omega⟩)
      rw [yes h] at this
      rw [hs, hor]
      exact this
    rw [br_false]
    refine ⟨fun h => ?_, fun h => ⟨hbig, h73, hf, fin (.inl h)⟩⟩
    have h0 : 0 ≤ r.2 := by omega
    have hcB : isB ((c.1 : Nat) : Int) := ⟨by omega, by omega⟩
    refine ⟨⟨bits_zero, h0, hth⟩, ⟨hcB, andI_isB bits_zero h0 hth⟩, ?_⟩
    rw [has_one' _ rfl]
    refine br_intro (fun h2 => ⟨hbig, h73, hf, fin (.inr h2)⟩) (fun h2 => ⟨hf, ?_⟩)
    have hn : ¬ (r.2 < 0 ∨ c.1.testBit r.2.toNat = true) := fun h => h.elim (fun h => by omega) (fun h => by rw [h2] at h; cases h)
    have := hK_j (by rw [no hn]; exact ⟨hp1, by omega⟩)
    rw [no hn] at this
    rw [hs]
    exact this
  · intro K_j hp_j
    dsimp only
    rw [br_decide]
    refine ⟨fun h => absurd h (by omega), fun _ => ?_⟩
    obtain ⟨hp1, hp2⟩ := hp_j
    have e : (backN rs b need out out.length).2.reverse = backOf rs b need out := by
      unfold backN backOf
      rw [List.take_of_length_le (by simp)]
    rw [e]
    have hl : (backOf rs b need out).length ≤ 11 := by rw [← e, List.length_reverse]; omega
    exact ⟨(show (backN rs b need out out.length).2.length ≤ 1000 by omega), ⟨hg, ⟨(show (0 : Int) ≤ (b : Int) by omega), (show (b : Int) < 1024 by omega)⟩, (show ((backN rs b need out out.length).2.reverse).length ≤ 1000 by rw [e]; omega)⟩, hk⟩

theorem runS_stop {rs : List (List Int × Int)} {n c : Nat} {out : List Int} (h : ∀ r ∈ rs, grantR c r = false) : runS rs n (c, out) = (c, out) := by
  cases n with
  | zero => rfl
  | succ n =>
    unfold runS
    rw [indexOf_none _ _ h, if_pos (by omega)]
theorem runS_go {rs : List (List Int × Int)} {n c i : Nat} {out : List Int} (hi : i < rs.length) (h : ∀ r ∈ rs.take i, grantR c r = false) (h0 : grantR c rs[i] = true) :
    runS rs (n + 1) (c, out) = runS rs n (c ||| 2 ^ (rs[i]).2.toNat, out ++ [(i : Int)]) := by
  conv => lhs; unfold runS
  rw [indexOf_some _ _ i hi h h0, if_neg (by omega), rule_at (by omega) (by simpa using hi)]
  simp only [Int.toNat_natCast]
theorem indexOf_range {α : Type} (p : α → Bool) (l : List α) (h : ¬ indexOf p l < 0) : 0 ≤ indexOf p l ∧ (indexOf p l).toNat < l.length := by
  refine ⟨by omega, ?_⟩
  have : ∀ l : List α, indexOf p l < l.length := by
    intro l
    induction l with
    | nil => simp [indexOf]
    | cons x l ih =>
      unfold indexOf
      simp only [List.length_cons]
      split
      · omega
      · split <;> omega
  have := this l
  omega

theorem k75 (hG : Good Tryz.prog (envOf [(78, mkC [v78]), (57, mkC [v57]), (59, mkC [v59]), (79, mkC [v79]), (83, mkC [v83e]), (73, mkC [v73]), (92, mkC [v92]), (93, mkC [v93]), (94, mkC [v94])])) : v75.Kept Tryz.prog 75 := by
  rintro ⟨w, rs, b, x, ⟨⟩⟩ hpre k hk
  change Int at w
  change List (List Int × Int) at rs
  change Int at b
  change Int at x
  refine aspec hmix hG Tryz.func75 tx75 (Eq.mpr (eq75 w rs b x k) ?_)
  replace hk : k (.tup [.imm (.int .i64) (stepL w rs b x) false, .bool (hasSteps rs b x)]) [] := hk
  unfold vc75
  obtain ⟨hg, hb, hx0, hx1⟩ := hpre
  have hg : Gd w rs := hg
  have hb : isB b := hb
  have hx0 : -1 ≤ x := hx0
  have hx1 : x < w := hx1
  have h1 : 0 ≤ b := hb.1
  have h2 : b < 1024 := hb.2
  obtain ⟨hw1, hw2, hrl, _⟩ := guild_spec hg
  have hok := gd_then hg
  obtain ⟨b, rfl⟩ := Int.eq_ofNat_of_zero_le h1
  refine Loop.intro (fun y => ∃ (c : Nat) (out : List Int), y = (x, w, rs, (b : Int), (c : Int), out, ()) ∧ c < 1024 ∧ runS rs (11 - out.length) (c, out) = runOf rs b ∧ out.length ≤ (listed c 10).length ∧ ∀ i ∈ out, 0 ≤ i ∧ i.toNat < rs.length) (fun y => 10 - (listed y.2.2.2.2.1.toNat 10).length) ?_ ⟨b, [], rfl, by omega, rfl, Nat.zero_le _, fun i hi => absurd hi (by simp)⟩
  rintro _ K ⟨c, out, rfl, hc, hrun, hol, hout⟩ hK
  dsimp only
  have hl10 := listed_len c 10
  have hcB : isB (c : Int) := ⟨by omega, by omega⟩
  refine ⟨trivial, ⟨hg, hcB⟩, ?_⟩
  have hwl : (wants rs (c : Int)).length = 12 := wants_len hrl _
  refine Loop.upto (fun i => (w, rs, (c : Int), wants rs (c : Int), (i : Int), x, w, rs, (c : Int), w, rs, (b : Int), (c : Int), out, ())) (fun i => ∀ r ∈ rs.take i, grantR c r = false) 12 rfl (by simp) ?_ ?_
  · intro i K_i hi hp_i hK_i
    dsimp only
    rw [br_decide]
    refine ⟨fun _ => ?_, fun h => absurd hi (by omega)⟩
    try simp only [Int.toNat_natCast]
    have nx : (∀ (hj : i < rs.length), grantR c rs[i] = false) → ∀ r ∈ rs.take (i + 1), grantR c r = false := by
      intro h r hr
      rcases Nat.lt_or_ge i rs.length with hj | hj
      · rw [List.take_succ_eq_append_getElem hj] at hr
        rcases List.mem_append.1 hr with hr | hr
        · exact hp_i r hr
        · rw [List.mem_singleton.1 hr]; exact h hj
      · rw [List.take_of_length_le (by omega)] at hr
        exact hp_i r (by rw [List.take_of_length_le (by omega)]; exact hr)
    refine ⟨⟨by omega, by omega⟩, by omega, hwl, ?_⟩
    rw [br_true]
    refine ⟨fun g1 => ?_, fun g1 => ⟨fits64 (by omega) (by omega), hK_i (nx fun hj => by omega)⟩⟩
    have hir : i < rs.length := by omega
    have hif := gd_if hg (List.getElem_mem hir)
    have hth := hok _ (List.getElem_mem hir)
    have hlz := lack_zero (b := c) (bitsL_lt hif.2)
    rw [br_bt]
    refine ⟨fun g2 => ?_, fun g2 => ⟨fits64 (by omega) (by omega), hK_i (nx fun hj => ?_)⟩⟩
    · have hs : subB (bitsL rs[i].1) c = true := by
        rw [wants_at hir, beq_iff_eq, Int.toNat_natCast] at g2
        exact hlz.1 (by omega)
      refine ⟨⟨by omega, by omega⟩, ?_⟩
      rw [br_true]
      refine ⟨fun g3 => ?_, fun g3 => ⟨fits64 (by omega) (by omega), hK_i (nx fun hj => ?_)⟩⟩
      · have g3 : 0 ≤ rs[i].2 := g3
        refine ⟨⟨by omega, by omega⟩, ⟨bits_zero, g3, hth⟩, ⟨hcB, andI_isB bits_zero g3 hth⟩, ?_⟩
        rw [has_one' _ rfl, br_bt]
        refine ⟨fun g4 => ?_, fun g4 => ⟨fits64 (by omega) (by omega), hK_i (nx fun hj => ?_)⟩⟩
        · have g4 : c.testBit rs[i].2.toNat = false := by simpa using g4
          have h0 : grantR c rs[i] = true := by
            unfold grantR
            rw [hs, g4, decide_eq_true g3]; rfl
          have h5 := listed_strict (sub_or c (2 ^ rs[i].2.toNat)) g4 (or_test.2 (.inr rfl)) 10 (by omega)
          have h6 := listed_len (c ||| 2 ^ rs[i].2.toNat) 10
          have hT : List.take out.length (List.drop 0 out) ++ [(i : Int)] = out ++ [(i : Int)] := by
            rw [List.drop_zero, List.take_length]
          refine ⟨⟨by omega, by omega⟩, ⟨hcB, g3, hth⟩, ⟨by omega, by omega, trivial⟩, (by show out.length + 1 ≤ 1099511627776; omega), by simp, ?_⟩
          rw [hT]
          have ea : andI (c : Int) rs[i].2 = ((c ||| 2 ^ rs[i].2.toNat : Nat) : Int) := by unfold andI; rw [Int.toNat_natCast]
          rw [ea]
          refine hK _ ⟨c ||| 2 ^ rs[i].2.toNat, out ++ [(i : Int)], rfl, or_lt hc (by omega), ?_, by simp; omega, ?_⟩ ?_
          · rw [← hrun, show 11 - out.length = (11 - (out ++ [(i : Int)]).length) + 1 by simp; omega, runS_go hir hp_i h0]
          · intro j hj
            rcases List.mem_append.1 hj with hj | hj
            · exact hout j hj
            · rw [List.mem_singleton.1 hj]; exact ⟨by omega, by simpa using hir⟩
          · dsimp only
            rw [Int.toNat_natCast, Int.toNat_natCast]
            omega
        · have g4 : c.testBit rs[i].2.toNat = true := by simpa using g4
          unfold grantR
          rw [g4]; simp
      · unfold grantR
        rw [decide_eq_false g3]; rfl
    · rw [wants_at hir, beq_eq_false_iff_ne, Int.toNat_natCast] at g2
      unfold grantR
      have : subB (bitsL rs[i].1) c = false := by
        cases h : subB (bitsL rs[i].1) c with
        | false => rfl
        | true => exact absurd (hlz.2 h) (by omega)
      rw [this]; simp
  · intro K_i hp_i
    dsimp only
    rw [br_decide]
    refine ⟨fun h => absurd h (by omega), fun _ => ?_⟩
    have hall : ∀ r ∈ rs, grantR c r = false := fun r hr => hp_i r (by rw [List.take_of_length_le hrl]; exact hr)
    have hro : runOf rs b = (c, out) := by rw [← hrun]; exact runS_stop hall
    have h11 : out.length ≤ 10 := by omega
    have hgo := gd_goodIfs hg
    rw [br_decide]
    refine ⟨fun hx => ?_, fun hx => ?_⟩
    · have hx9 : x ≤ 9 := by omega
      have e1 : hasSteps rs (b : Int) x = c.testBit x.toNat := by
        unfold hasSteps
        rw [if_pos hx, Int.toNat_natCast, hro]
      refine ⟨⟨bits_zero, hx, hx9⟩, ⟨hcB, andI_isB bits_zero hx hx9⟩, ?_⟩
      rw [has_one' _ rfl, br_not]
      refine ⟨fun h => ?_, fun h => ⟨trivial, fits64 (by omega) (by omega), ?_⟩⟩
      · have e2 : stepL w rs (b : Int) x = [] := by unfold stepL; rw [e1, h]; rfl
        rw [e1, e2, h] at hk
        exact hk
      · have e2 : stepL w rs (b : Int) x = lessL w rs (b : Int) x (backOf rs b (2 ^ x.toNat) out) := by
          unfold stepL rawS
          rw [e1, h, if_pos rfl, if_pos hx, Int.toNat_natCast, hro]
        have ea : andI 0 x = ((2 ^ x.toNat : Nat) : Int) := by unfold andI; simp
        rw [ea]
        refine back_loop hg (by omega) hout (by omega) ?_ ?_
        · exact Nat.pow_lt_pow_right (n := 10) (by omega) (by omega)
        · rw [e1, e2, h] at hk
          exact hk
    · refine ⟨⟨(show rs.length ≤ 1000 by omega), hgo, hcB⟩, ?_⟩
      have e1 : hasSteps rs (b : Int) x = !decide (indexOf (ban3 (c : Int)) rs < 0) := by
        unfold hasSteps
        rw [if_neg (by omega), Int.toNat_natCast, hro]
      rw [br_decide]
      refine ⟨fun h => ?_, fun h => ?_⟩
      · have e3 : hasSteps rs (b : Int) x = false := by rw [e1, decide_eq_true h]; rfl
        have e2 : stepL w rs (b : Int) x = [] := by unfold stepL; rw [e3]; rfl
        rw [e3, e2] at hk
        exact hk
      · have e3 : hasSteps rs (b : Int) x = true := by rw [e1, decide_eq_false h]; rfl
        have hir := indexOf_range _ _ h
        have hif := gd_if hg (List.getElem_mem hir.2)
        have hra := rule_at hir.1 hir.2
        have e2 : stepL w rs (b : Int) x = lessL w rs (b : Int) x (backOf rs b (bitsL (rs[(indexOf (ban3 (c : Int)) rs).toNat]'hir.2).1) (out ++ [indexOf (ban3 (c : Int)) rs])) := by
          unfold stepL rawS
          rw [e3, if_pos rfl, if_neg (by omega), Int.toNat_natCast, hro, hra]
        refine ⟨hir, ⟨(show (rs[(indexOf (ban3 (c : Int)) rs).toNat]'hir.2).1.length ≤ 1000 by have := hif.1; omega), hif.2⟩, ?_, trivial, ?_, ?_⟩
        · show out.length + 1 ≤ 1099511627776
          omega
        · exact fits64 (by simp <;> omega) (by simp <;> omega)
        · refine back_loop hg (by omega) ?_ (by simp; omega) (bitsL_lt hif.2) ?_
          · intro j hj
            rcases List.mem_append.1 hj with hj | hj
            · exact hout j hj
            · rw [List.mem_singleton.1 hj]; exact hir
          · rw [e3, e2] at hk
            exact hk
end Go.Abs.Label
end

section
/- The label's functions keep their contracts: steps that lead to a word. -/
open Go.Proofs
set_option maxRecDepth 100000
set_option linter.unusedVariables false
namespace Go.Abs.Label

theorem runS_len (rs : List (List Int × Int)) : ∀ (n : Nat) (s : Nat × List Int), (runS rs n s).2.length ≤ s.2.length + n
  | 0, s => by unfold runS; omega
  | n + 1, s => by
    unfold runS
    split
    · omega
    · have := runS_len rs n (s.1 ||| 2 ^ (ruleAt rs (indexOf (grantR s.1) rs)).2.toNat, s.2 ++ [indexOf (grantR s.1) rs])
      simp only [List.length_append, List.length_cons, List.length_nil] at this
      omega
theorem backS_len (rs : List (List Int × Int)) (b : Nat) : ∀ (l : List Int) (s : Nat × List Int), (l.foldl (backS rs b) s).2.length ≤ s.2.length + l.length
  | [], s => by simp
  | i :: l, s => by
    have := backS_len rs b l (backS rs b s i)
    have h : (backS rs b s i).2.length ≤ s.2.length + 1 := by
      unfold backS
      split <;> simp
    simp only [List.foldl_cons, List.length_cons]
    omega
theorem backOf_len (rs : List (List Int × Int)) (b need : Nat) (out : List Int) : (backOf rs b need out).length ≤ out.length := by
  have := backS_len rs b out.reverse (need, [])
  unfold backOf
  rw [List.length_reverse]
  simpa using this
theorem lessS_len (w : Int) (rs : List (List Int × Int)) (b word : Int) : ∀ (n : Nat) (s : List Int), (lessS w rs b word n s).length ≤ s.length
  | 0, s => Nat.le_refl _
  | n + 1, s => by
    unfold lessS
    split
    · exact Nat.le_refl _
    · refine Nat.le_trans (lessS_len w rs b word n _) ?_
      exact (List.eraseIdx_sublist _ _).length_le
theorem stepL_len (w : Int) (rs : List (List Int × Int)) (b word : Int) : (stepL w rs b word).length ≤ 12 := by
  have hr : (rawS rs b word).length ≤ 12 := by
    have h1 := runS_len rs 11 (b.toNat, [])
    have h1 : (runOf rs b.toNat).2.length ≤ 11 := by simpa [runOf] using h1
    unfold rawS
    split
    · exact Nat.le_trans (backOf_len _ _ _ _) (by omega)
    · exact Nat.le_trans (backOf_len _ _ _ _) (by simp; omega)
  unfold stepL
  split
  · exact Nat.le_trans (lessS_len _ _ _ _ _ _) hr
  · simp

theorem k32 (hG : Good Tryz.prog (envOf [(42, mkC [v42]), (50, mkC [v50]), (75, mkC [v75])])) : v32.Kept Tryz.prog 32 := by
  rintro ⟨w, rs, l, x, ⟨⟩⟩ hpre k hk
  change Int at w
  change List (List Int × Int) at rs
  change List Int at l
  change Int at x
  refine aspec hmix hG Tryz.func32 tx32 (Eq.mpr (eq32 w rs l x k) ?_)
  replace hk : k (.tup [.reg 0 false, rI (stepErr w rs l x)]) [.sl (.int .i64) (stepsL w rs l x)] := hk
  unfold vc32
  obtain ⟨hs, h2⟩ := hpre
  have hs : smallG rs := hs
  have h2 : l.length ≤ 1000 := h2
  refine ⟨⟨hs, h2⟩, ?_⟩
  have bad : labelErr w rs l ≠ 0 → stepErr w rs l x = labelErr w rs l ∧ stepsL w rs l x = [] := fun h => by
    have e : stepErr w rs l x = labelErr w rs l := by unfold stepErr; rw [if_pos h]
    exact ⟨e, by unfold stepsL; rw [e, if_neg h]⟩
  refine br_intro (fun h => ?_) (fun h6 => br_intro (fun h => ?_) (fun h2' => br_intro (fun h => ?_) (fun h3 => ?_)))
  · have e := of_decide_eq_true h
    have := bad (by omega)
    rw [this.1, this.2, e] at hk
    exact hk
  · have e := of_decide_eq_true h
    have := bad (by omega)
    rw [this.1, this.2, e] at hk
    exact hk
  · have e := of_decide_eq_true h
    have := bad (by omega)
    rw [this.1, this.2, e] at hk
    exact hk
  have h0 := labelErr_cases w rs l h6 h2' h3
  obtain ⟨hg, hl9, hbB⟩ := label_isB h0
  obtain ⟨hw1, hw2, hrl, _⟩ := guild_spec hg
  have eo : anyOut (-1) (w - 1) [x] = outOf (-1) (w - 1) x := by simp [anyOut]
  refine ⟨fits64 (by omega) (by omega), (show 1 ≤ 1152921504606846976 by omega), ?_⟩
  rw [eo, Bool.not_not]
  have e0 : stepErr w rs l x = if outOf (-1) (w - 1) x then 3 else if hasSteps rs (bitsI l) x then 0 else 5 := by
    unfold stepErr
    rw [if_neg (by omega)]
  refine br_intro (fun h => ?_) (fun h => ?_)
  · rw [h, if_pos rfl] at e0
    have e1 : stepsL w rs l x = [] := by unfold stepsL; rw [e0]; rfl
    rw [e0, e1] at hk
    exact hk
  · rw [h, if_neg (by simp)] at e0
    have hx : -1 ≤ x ∧ x < w := by
      unfold outOf at h
      have := of_decide_eq_false h
      omega
    refine ⟨⟨hg, hbB, hx.1, hx.2⟩, ?_⟩
    rw [br_not]
    refine ⟨fun h2 => ?_, fun h2 => ?_⟩
    · rw [h2, if_neg (by simp)] at e0
      have e1 : stepsL w rs l x = [] := by unfold stepsL; rw [e0]; rfl
      rw [e0, e1] at hk
      exact hk
    · rw [h2, if_pos rfl] at e0
      have e1 : stepsL w rs l x = stepL w rs (bitsI l) x := by unfold stepsL; rw [e0, if_pos rfl]
      have hn := stepL_len w rs (bitsI l) x
      rw [e0, e1] at hk
      refine ⟨⟨by omega, rfl, (show (((stepL w rs (bitsI l) x).length : Nat) : Int) ≤ ((1099511627776 : Nat) : Int) by omega)⟩, ?_⟩
      · generalize stepL w rs (bitsI l) x = s at hk ⊢
        have e : (List.take (List.length (List.replicate (Int.toNat ((s.length : Nat) : Int)) (Int.ofNat 0))) s ++ List.drop s.length (List.replicate (Int.toNat ((s.length : Nat) : Int)) (Int.ofNat 0))) = s := by
          rw [Int.toNat_natCast, List.length_replicate, List.take_length, List.drop_of_length_le (by simp), List.append_nil]
        rw [e]
        exact hk
end Go.Abs.Label
end

section
/- The contracts of the label's functions: room for more rules (slices.Grow). -/
namespace Go.Abs.Label
def growPre : List AVal → List Cont → Prop
  | [.nils (.pair (.slice (.int .i64)) (.int .i64)), .int .i64 n], [] => 0 ≤ n ∧ n ≤ 1000000
  | _, _ => False
def cGrow : Contract := ⟨growPre, fun _ _ => .leaf (.reg 0 false) [.sl (.pair (.slice (.int .i64)) (.int .i64)) []], [1000]⟩
end Go.Abs.Label
end

section
/- Conditions and their equations, printed by a program. -/
open Go.Proofs
set_option maxRecDepth 100000
set_option linter.unusedVariables false
namespace Go.Abs.Label
def vc72 (l : List (List (List Int × Int))) (k : AVal → List Cont → Prop) : Prop :=
  Go.Abs.Loop (σ := ((List (List ((List Int) × Int))) × (Int × ((List (List ((List Int) × Int))) × (Int × (Int × Unit)))))) (fun K2 x2 =>
    br ((decide (x2.2.2.2.2.1 < x2.2.2.2.1)))
     (∃ h4 : (((0 : Int) ≤ x2.2.2.2.2.1) ∧ ((Int.toNat x2.2.2.2.2.1) < (List.length x2.2.2.1))),
     (Go.Abs.fitsK Go.IntKind.i64 (x2.2.1 + (((List.length (x2.2.2.1[(Int.toNat x2.2.2.2.2.1)]'h4.2)) : Nat) : Int))) ∧
     br ((decide ((x2.2.1 + (((List.length (x2.2.2.1[(Int.toNat x2.2.2.2.2.1)]'h4.2)) : Nat) : Int)) < (0 : Int))))
      (False)
      ((Go.Abs.fitsK Go.IntKind.i64 (x2.2.2.2.2.1 + (1 : Int))) ∧
      (K2 (x2.1, ((x2.2.1 + (((List.length (x2.2.2.1[(Int.toNat x2.2.2.2.2.1)]'h4.2)) : Nat) : Int)), (x2.2.2.1, (x2.2.2.2.1, ((x2.2.2.2.2.1 + (1 : Int)), ()))))))))
     ((((0 : Int) ≤ x2.2.1) ∧ (x2.2.1 ≤ (1000000 : Int))) ∧
     Go.Abs.Loop (σ := ((List (List ((List Int) × Int))) × (Int × (Int × ((List ((List Int) × Int)) × Unit))))) (fun K4 x4 =>
       br ((decide (x4.2.2.1 < x4.2.1)))
        (∃ h6 : (((0 : Int) ≤ x4.2.2.1) ∧ ((Int.toNat x4.2.2.1) < (List.length x4.1))),
        (((List.length x4.2.2.2.1) + (List.length (x4.1[(Int.toNat x4.2.2.1)]'h6.2))) ≤ Go.Abs.big) ∧
        (Go.Abs.fitsK Go.IntKind.i64 (x4.2.2.1 + (1 : Int))) ∧
        (K4 (x4.1, (x4.2.1, ((x4.2.2.1 + (1 : Int)), ((x4.2.2.2.1 ++ (x4.1[(Int.toNat x4.2.2.1)]'h6.2)), ()))))))
        ((k (Go.Abs.AVal.imm (Go.Abs.Ty.pair (Go.Abs.Ty.slice (Go.Abs.Ty.int Go.IntKind.i64)) (Go.Abs.Ty.int Go.IntKind.i64)) x4.2.2.2.1 Bool.false) []))) ((x2.1, ((((List.length x2.1) : Nat) : Int), ((0 : Int), (([] : List ((List Int) × Int)), ()))))))) ((l, ((0 : Int), (l, ((((List.length l) : Nat) : Int), ((0 : Int), ()))))))
theorem eq72 (l : List (List (List Int × Int))) (k : AVal → List Cont → Prop) : awpF (envOf [(90, cGrow)]) Tryz.prog kt 72 true Tryz.f72 (v72.args (l, ())) (v72.conts (l, ())) k = vc72 l k := by kernel_rfl
theorem tx72 : (Tryz.f72.body.map Code.textsOk).getD true = true := by kernel_rfl

end Go.Abs.Label
end

section
/- The label's functions keep their contracts: rules of several lists, one after the other (slices.Grow, slices.Concat). -/
open Go.Proofs
set_option maxRecDepth 100000
set_option linter.unusedVariables false
namespace Go.Abs.Label
open Go.Shelf
abbrev tRu : Ty := .pair (.slice (.int .i64)) (.int .i64)

theorem grow_spec {n : Int} (h1 : 0 ≤ n) (h2 : n ≤ 1000000) {k : AVal → List Cont → Prop} (hk : k (.reg 0 false) [.sl tRu []]) : ASpec Tryz.prog 90 [.nils tRu, .int .i64 n] [] k := by
  intro F K H w vs hok hargs hm hfr
  obtain ⟨v0, vs', rfl, hr0, hargs'⟩ := hargs.inv
  obtain ⟨v1, vs'', rfl, hr1, hargs''⟩ := hargs'.inv
  obtain rfl : vs'' = [] := RepL.nil_iff.1 hargs''
  clear hargs hargs' hargs''
  simp only [Rep] at hr0 hr1
  subst hr1; subst hr0
  have en : n = ((n.toNat : Nat) : Int) := by omega
  rcases Nat.eq_zero_or_pos n.toNat with h0 | hpos
  · have := Any8.slices_Grow_room Tryz.layGrow none 0 0 0 w (Nat.le_refl _) (by omega) (by omega) (by omega)
    rw [en, h0]
    refine Calls.mono this ?_
    rintro e w' ⟨rfl, rfl⟩
    obtain ⟨H', q1, q2, q3, q4⟩ := nil_region (M := []) (n := 0) (ty := tRu) hm (fun r _ => hfr r (Nat.zero_le _))
    have q5 : MRel F K H' w' (newM (fun _ => none) 0 [Cont.sl tRu []]) := by
      have e : newM (fun _ => none) 0 [Cont.sl tRu []] = mget [(0, Cont.sl tRu [], Flag.own)] := by
        funext r
        show upd (fun _ => none) 0 _ r = _
        unfold upd mget
        split <;> split <;> first | rfl | omega
      rw [e]
      exact q2
    exact ⟨_, .reg 0 false, [.sl tRu []], K, H', rfl, hk, .refl K, q4, q5, fun r hr => q3 r hr, hok, .refl _ _, .refl _ _, Nat.zero_le _, fun r hr => absurd hr (Nat.not_lt_zero _)⟩
  obtain ⟨i0, hi0, hz0, hs0, hb0, hzc⟩ : ∃ i, Tryz.prog.info? (Tryz.layGrow_ren.t 25) = some i ∧ i.zero = some (.agg #[.slice none 0 0, .int .i64 0]) ∧ i.size = 2 ∧ i.bytes = 32 ∧ True := ⟨Tryz.t58, by kernel_rfl, by kernel_rfl, by kernel_rfl, by kernel_rfl, trivial⟩
  have := Any8.slices_Grow_grow Tryz.layGrow i0 _ hi0 hz0 (by omega) none 0 0 n.toNat [] w (Nat.le_refl _) (by omega) (by rw [hb0]; omega) (by omega) (by simp) (fun _ => rfl) (fun a _ j v hj => by simp at hj)
  rw [← en] at this
  refine Calls.mono this ?_
  rintro e w' ⟨rfl, rfl⟩
  have hG := grownCap_ge w (0 + n.toNat) 0 (Tryz.layGrow_ren.t 25)
  have hM := grownCap_le_maxLen w (0 + n.toNat) 0 (Tryz.layGrow_ren.t 25) (by unfold maxLen; omega)
  unfold maxLen at hM
  generalize grownCap w (0 + n.toNat) 0 (Tryz.layGrow_ren.t 25) = G at hG hM ⊢
  have hokd : WOk F K w.drew := ⟨hok.knows, hok.lt, hok.inv, hok.apart⟩
  have hmd : MRel F K H w.drew (fun _ => none) := mrel_nil
  have hA := after_alloc hokd hmd (nx := 0) (hfr 0 (Nat.le_refl _)) (([] : List Value).toArray ++ Builtin.zeroCells (Value.agg #[.slice none 0 0, .int .i64 0]).cells (0 + n.toNat - 0) ++ Builtin.zeroCells (Value.agg #[.slice none 0 0, .int .i64 0]).cells (G - (0 + n.toNat))) (Tryz.layGrow_ren.t 25)
    (.sl tRu []) ⟨some w.heap.size, 2, 0, G⟩ rfl (by
      refine ⟨rfl, rfl, ⟨Nat.zero_le _, by show G ≤ _; omega⟩, .inr ⟨w.heap.size, _, _, (0, 0), rfl, alloc_new w.drew _, ?_, fun i hi => by simp at hi⟩⟩
      show G * 2 ≤ _
      simp only [Array.size_append, size_zeroCells, Value.cells]
      simp; omega)
    (.reg 0 false) (.slice (some ⟨w.heap.size, 0, none⟩) 0 G) (by simp only [Rep]; exact ⟨_, upd_same _ _ _, rfl, by simp⟩) []
  obtain ⟨a1, a2, a3, a4, a5, a6, a7, a8⟩ := hA
  refine ⟨_, .reg 0 false, [.sl tRu []], K, _, rfl, hk, .refl K, a4, a5, fun r hr => ?_, a6, ?_, .refl _ _, Nat.zero_le _, fun r hr => absurd hr (Nat.not_lt_zero _)⟩
  · have hr : 1 ≤ r := hr
    rw [upd_ne _ _ _ _ (by omega)]
    exact hfr r (Nat.zero_le _)
  · exact Kept.trans (b := w.drew) ⟨rfl, rfl, rfl, Nat.le_refl _, fun _ _ => rfl, Nat.le_succ _⟩ a7

theorem grow_kept : ∀ us cs k, cGrow.run us cs k → ASpec Tryz.prog 90 us cs k := by
  rintro us cs k ⟨h1, h2⟩
  have h1 : growPre us cs := h1
  unfold growPre at h1
  split at h1
  · exact grow_spec h1.1 h1.2 h2
  · exact h1.elim
theorem g90 {l : List (FuncId × Contract)} (hG : Good Tryz.prog (envOf l)) : Good Tryz.prog (envOf ((90, cGrow) :: l)) := by
  obtain ⟨c, hc⟩ := Option.isSome_iff_exists.1 (show Tryz.f90.body.isSome = true by kernel_rfl)
  exact good_cons hG Tryz.func90 hc (by kernel_rfl) grow_kept

def sumLen (l : List (List (List Int × Int))) : Nat := l.foldl (fun n x => n + x.length) 0
theorem sumLen_take {l : List (List (List Int × Int))} {i : Nat} (h : i < l.length) : sumLen (l.take (i + 1)) = sumLen (l.take i) + l[i].length := by
  unfold sumLen
  rw [List.take_succ_eq_append_getElem h, List.foldl_append]; rfl
theorem sumLen_le {l : List (List (List Int × Int))} (h : ∀ y ∈ l, y.length ≤ 1000) : ∀ i, i ≤ l.length → sumLen (l.take i) ≤ i * 1000
  | 0, _ => by simp [sumLen]
  | i + 1, hi => by
    have := sumLen_le h i (by omega)
    have h2 := h _ (List.getElem_mem (show i < l.length by omega))
    rw [sumLen_take (by omega)]; omega
theorem flatten_take {l : List (List (List Int × Int))} {i : Nat} (h : i < l.length) : (l.take (i + 1)).flatten = (l.take i).flatten ++ l[i] := by
  rw [List.take_succ_eq_append_getElem h, List.flatten_append]; simp
theorem flatten_len : ∀ (l : List (List (List Int × Int))) (i : Nat), i ≤ l.length → ((l.take i).flatten).length = sumLen (l.take i)
  | l, 0, _ => by simp [sumLen]
  | l, i + 1, h => by rw [flatten_take (by omega), sumLen_take (by omega), List.length_append, flatten_len l i (by omega)]

theorem k72 (hG : Good Tryz.prog (envOf [(90, cGrow)])) : v72.Kept Tryz.prog 72 := by
  rintro ⟨l, ⟨⟩⟩ hpre k hk
  change List (List (List Int × Int)) at l
  refine aspec hmix hG Tryz.func72 tx72 (Eq.mpr (eq72 l k) ?_)
  replace hk : k (.imm tRu (List.flatten l) false) [] := hk
  unfold vc72
  obtain ⟨h1, h2⟩ := hpre
  have h1 : l.length ≤ 100 := h1
  have h2 : ∀ y ∈ l, y.length ≤ 1000 := h2
  refine Loop.upto (fun i => (l, ((sumLen (l.take i) : Nat) : Int), l, ((l.length : Nat) : Int), (i : Int), ())) (fun i => True) l.length rfl trivial ?_ ?_
  · intro i K hi hp hK
    dsimp only
    rw [br_decide]
    refine ⟨fun _ => ?_, fun h => absurd hi (by omega)⟩
    try simp only [Int.toNat_natCast]
    have hK := hK trivial
    have hs := sumLen_take hi
    have hle := sumLen_le h2 (i + 1) (by omega)
    rw [hs] at hK hle
    refine ⟨⟨by omega, by omega⟩, fits64 (by omega) (by omega), ?_⟩
    rw [br_decide]
    exact ⟨fun h => absurd h (by omega), fun _ => ⟨fits64 (by omega) (by omega), hK⟩⟩
  · intro K hp
    dsimp only
    rw [br_decide]
    refine ⟨fun h => absurd h (by omega), fun _ => ?_⟩
    rw [List.take_length]
    have hle := sumLen_le h2 l.length (Nat.le_refl _)
    rw [List.take_length] at hle
    refine ⟨⟨by omega, by omega⟩, ?_⟩
    refine Loop.upto (fun i => (l, ((l.length : Nat) : Int), (i : Int), (l.take i).flatten, ())) (fun i => True) l.length rfl trivial ?_ ?_
    · intro j K_j hj hp_j hK_j
      dsimp only
      rw [br_decide]
      refine ⟨fun _ => ?_, fun h => absurd hj (by omega)⟩
      try simp only [Int.toNat_natCast]
      have hK := hK_j trivial
      have hfl := flatten_len l j (by omega)
      have hs := sumLen_take hj
      have hle := sumLen_le h2 (j + 1) (by omega)
      rw [hs] at hle
      rw [flatten_take hj] at hK
      exact ⟨⟨by omega, by omega⟩, by rw [hfl]; simp only [big]; omega, fits64 (by omega) (by omega), hK⟩
    · intro K_j hp_j
      dsimp only
      rw [br_decide]
      refine ⟨fun h => absurd h (by omega), fun _ => ?_⟩
      rw [List.take_length]
      exact hk
end Go.Abs.Label
end

section
/- What the label's functions compute: the examples of the chapter. -/
namespace Go.Abs.Label
def fiveR : List (List Int × Int) := [([0, 1], 2), ([2], 3), ([3, 4], -1), ([0], 4), ([5], 1)]
def sixR : List (List Int × Int) := fiveR ++ [([0, 5], 3)]
end Go.Abs.Label
end

section
/- The contracts of the label's functions: the examples; what follows, as the statements ask it. -/
namespace Go.Abs.Label
abbrev sRLt : VS := .imm (.pair (.slice (.int .i64)) (.int .i64)) true
def v76t : Var := ⟨.cs sI (.cs sRLt .nl), [], fun _ => True, fun x => one (.agg [rI x.1, .imm (.pair (.slice (.int .i64)) (.int .i64)) x.2.1 true])⟩
def guildPre : List AVal → List Cont → Prop
  | [.int .i64 _, .imm (.pair (.slice (.int .i64)) (.int .i64)) _ _], [] => True
  | _, _ => False
def guildRes : List AVal → List Cont → RTree
  | [.int .i64 n, .imm (.pair (.slice (.int .i64)) (.int .i64)) l f], [] => .leaf (.agg [rI n, .imm (.pair (.slice (.int .i64)) (.int .i64)) l f]) []
  | _, _ => .leaf .unk []
/-- A guild of rules: whether all room of their list is taken is known on. -/
def cGuild : Contract := ⟨guildPre, guildRes, []⟩
def v37 : Var := ⟨.nl, [], fun _ => True, fun _ => one (.agg [rI 6, .imm (.pair (.slice (.int .i64)) (.int .i64)) fiveR true])⟩
def v38 : Var := ⟨.nl, [], fun _ => True, fun _ => one (.agg [rI 6, .imm (.pair (.slice (.int .i64)) (.int .i64)) sixR false])⟩
def v31 : Var := ⟨.cs sG (.cs sL .nl), [], fun x => Gd x.1 x.2.1 ∧ isList x.2.2.1 x.1 = true, fun x => one (.tup [rI (fromI x.1 x.2.1 (bitsI x.2.2.1)), rBo (banI x.1 x.2.1 (bitsI x.2.2.1)), rBo true])⟩
def v10 : Var := ⟨.nl, [], fun _ => True, fun _ => one (rBo true)⟩
end Go.Abs.Label
end

section
/- Conditions and their equations, printed by a program. -/
open Go.Proofs
set_option maxRecDepth 100000
set_option linter.unusedVariables false
namespace Go.Abs.Label
def vc76t (w : Int) (rs : List (List Int × Int)) (k : AVal → List Cont → Prop) : Prop :=
  (k (Go.Abs.AVal.agg ((Go.Abs.AVal.int Go.IntKind.i64 w) :: ((Go.Abs.AVal.imm (Go.Abs.Ty.pair (Go.Abs.Ty.slice (Go.Abs.Ty.int Go.IntKind.i64)) (Go.Abs.Ty.int Go.IntKind.i64)) rs Bool.true) :: []))) [])
theorem eq76t (w : Int) (rs : List (List Int × Int)) (k : AVal → List Cont → Prop) : awpF (envOf []) Tryz.prog kt 76 false Tryz.f76 (v76t.args (w, rs, ())) (v76t.conts (w, rs, ())) k = vc76t w rs k := by kernel_rfl

def vc37  (k : AVal → List Cont → Prop) : Prop :=
  (Go.Abs.Label.v77.p ((2 : Int), (((0 : Int) :: ((1 : Int) :: ([] : List Int))), ()))) ∧
  (Go.Abs.Label.v77.p ((3 : Int), (((2 : Int) :: ([] : List Int)), ()))) ∧
  (Go.Abs.Label.v77.p ((-(1 : Int) : Int), (((3 : Int) :: ((4 : Int) :: ([] : List Int))), ()))) ∧
  (Go.Abs.Label.v77.p ((4 : Int), (((0 : Int) :: ([] : List Int)), ()))) ∧
  (Go.Abs.Label.v77.p ((1 : Int), (((5 : Int) :: ([] : List Int)), ()))) ∧
  True ∧
  (k (Go.Abs.AVal.agg ((Go.Abs.AVal.int Go.IntKind.i64 (6 : Int)) :: ((Go.Abs.AVal.imm (Go.Abs.Ty.pair (Go.Abs.Ty.slice (Go.Abs.Ty.int Go.IntKind.i64)) (Go.Abs.Ty.int Go.IntKind.i64)) ((((0 : Int) :: ((1 : Int) :: ([] : List Int))), (2 : Int)) :: ((((2 : Int) :: ([] : List Int)), (3 : Int)) :: ((((3 : Int) :: ((4 : Int) :: ([] : List Int))), (-(1 : Int) : Int)) :: ((((0 : Int) :: ([] : List Int)), (4 : Int)) :: ((((5 : Int) :: ([] : List Int)), (1 : Int)) :: ([] : List ((List Int) × Int))))))) Bool.true) :: []))) [])
theorem eq37  (k : AVal → List Cont → Prop) : awpF (envOf [(77, mkC [v77]), (76, cGuild)]) Tryz.prog kt 37 false Tryz.f37 (v37.args ()) (v37.conts ()) k = vc37  k := by kernel_rfl
theorem tx37 : (Tryz.f37.body.map Code.textsOk).getD true = true := by kernel_rfl

def vc38  (k : AVal → List Cont → Prop) : Prop :=
  (Go.Abs.Label.v37.p ()) ∧
  (Go.Abs.Label.v77.p ((3 : Int), (((0 : Int) :: ((5 : Int) :: ([] : List Int))), ()))) ∧
  (((List.length Go.Abs.Label.fiveR) + (List.length ((((0 : Int) :: ((5 : Int) :: ([] : List Int))), (3 : Int)) :: ([] : List ((List Int) × Int))))) ≤ Go.Abs.big) ∧
  ((0 : Nat) < (List.length ((((0 : Int) :: ((5 : Int) :: ([] : List Int))), (3 : Int)) :: ([] : List ((List Int) × Int))))) ∧
  True ∧
  (k (Go.Abs.AVal.agg ((Go.Abs.AVal.int Go.IntKind.i64 (6 : Int)) :: ((Go.Abs.AVal.imm (Go.Abs.Ty.pair (Go.Abs.Ty.slice (Go.Abs.Ty.int Go.IntKind.i64)) (Go.Abs.Ty.int Go.IntKind.i64)) (Go.Abs.Label.fiveR ++ ((((0 : Int) :: ((5 : Int) :: ([] : List Int))), (3 : Int)) :: ([] : List ((List Int) × Int)))) Bool.false) :: []))) [])
theorem eq38  (k : AVal → List Cont → Prop) : awpF (envOf [(37, mkC [v37]), (77, mkC [v77]), (76, cGuild)]) Tryz.prog kt 38 false Tryz.f38 (v38.args ()) (v38.conts ()) k = vc38  k := by kernel_rfl
theorem tx38 : (Tryz.f38.body.map Code.textsOk).getD true = true := by kernel_rfl

def vc31 (w : Int) (rs : List (List Int × Int)) (l : List Int) (k : AVal → List Cont → Prop) : Prop :=
  (Go.Abs.Label.v11.p (w, (rs, (l, ())))) ∧
  (Go.Abs.Label.v13.p (w, (rs, (l, ())))) ∧
  br ((((Go.Abs.Label.labelErr w rs l) != (0 : Int)) == Bool.false))
   (br ((((Go.Abs.Label.labelErr w rs l) != (0 : Int)) == Bool.false))
    ((Go.Abs.Label.v56.p ((Go.Abs.Label.folL w rs l), (w, ()))) ∧
    br ((Bool.not (Go.Abs.Label.isList (Go.Abs.Label.folL w rs l) w)))
     ((k (Go.Abs.AVal.tup ((Go.Abs.AVal.int Go.IntKind.i64 (0 : Int)) :: ((Go.Abs.AVal.bool Bool.false) :: ((Go.Abs.AVal.bool Bool.false) :: [])))) []))
     ((Go.Abs.Label.v47.p ((Go.Abs.Label.folL w rs l), ())) ∧
     (Go.Abs.Label.v47.p (l, ())) ∧
     (k (Go.Abs.AVal.tup ((Go.Abs.AVal.int Go.IntKind.i64 (Go.Abs.Label.bitsI (Go.Abs.Label.folL w rs l))) :: ((Go.Abs.AVal.bool (Go.Abs.Label.banL w rs l)) :: ((Go.Abs.AVal.bool ((Go.Abs.bitsA Go.BinOp.and Go.IntKind.i64 (Go.Abs.Label.bitsI (Go.Abs.Label.folL w rs l)) (Go.Abs.Label.bitsI l)) == (Go.Abs.Label.bitsI l))) :: [])))) [])))
    ((k (Go.Abs.AVal.tup ((Go.Abs.AVal.int Go.IntKind.i64 (0 : Int)) :: ((Go.Abs.AVal.bool Bool.false) :: ((Go.Abs.AVal.bool Bool.false) :: [])))) [])))
   ((k (Go.Abs.AVal.tup ((Go.Abs.AVal.int Go.IntKind.i64 (0 : Int)) :: ((Go.Abs.AVal.bool Bool.false) :: ((Go.Abs.AVal.bool Bool.false) :: [])))) []))
theorem eq31 (w : Int) (rs : List (List Int × Int)) (l : List Int) (k : AVal → List Cont → Prop) : awpF (envOf [(11, mkC [v11]), (13, mkC [v13]), (56, mkC [v56]), (47, mkC [v47])]) Tryz.prog kt 31 false Tryz.f31 (v31.args (w, rs, l, ())) (v31.conts (w, rs, l, ())) k = vc31 w rs l k := by kernel_rfl
theorem tx31 : (Tryz.f31.body.map Code.textsOk).getD true = true := by kernel_rfl

def vc10  (k : AVal → List Cont → Prop) : Prop :=
  (Go.Abs.Label.v37.p ()) ∧
  (Go.Abs.Label.v38.p ()) ∧
  (Go.Abs.Label.v39.p (((0 : Int) :: ((5 : Int) :: ([] : List Int))), ())) ∧
  (Go.Abs.Label.v11.p ((6 : Int), (Go.Abs.Label.fiveR, (((0 : Int) :: ((5 : Int) :: ([] : List Int))), ())))) ∧
  (Go.Abs.Label.v39.p (((1 : Int) :: ((0 : Int) :: ([] : List Int))), ())) ∧
  (Go.Abs.Label.v11.p ((6 : Int), (Go.Abs.Label.fiveR, (((1 : Int) :: ((0 : Int) :: ([] : List Int))), ())))) ∧
  (Go.Abs.Label.v39.p (((0 : Int) :: ((1 : Int) :: ([] : List Int))), ())) ∧
  (Go.Abs.Label.v13.p ((6 : Int), (Go.Abs.Label.fiveR, (((0 : Int) :: ((1 : Int) :: ([] : List Int))), ())))) ∧
  (Go.Abs.Label.v39.p (((0 : Int) :: ([] : List Int)), ())) ∧
  (Go.Abs.Label.v13.p ((6 : Int), (Go.Abs.Label.fiveR, (((0 : Int) :: ([] : List Int)), ())))) ∧
  (Go.Abs.Label.v39.p (((0 : Int) :: ((5 : Int) :: ([] : List Int))), ())) ∧
  (Go.Abs.Label.v39.p (((4 : Int) :: ((0 : Int) :: ((1 : Int) :: ([] : List Int)))), ())) ∧
  (Go.Abs.Label.v33.p ((6 : Int), (Go.Abs.Label.fiveR, (((0 : Int) :: ((5 : Int) :: ([] : List Int))), ((3 : Int), (((4 : Int) :: ((0 : Int) :: ((1 : Int) :: ([] : List Int)))), ())))))) ∧
  (Go.Abs.Label.v39.p (((0 : Int) :: ((5 : Int) :: ([] : List Int))), ())) ∧
  (Go.Abs.Label.v39.p (((0 : Int) :: ((1 : Int) :: ([] : List Int))), ())) ∧
  (Go.Abs.Label.v33.p ((6 : Int), (Go.Abs.Label.fiveR, (((0 : Int) :: ((5 : Int) :: ([] : List Int))), ((3 : Int), (((0 : Int) :: ((1 : Int) :: ([] : List Int))), ())))))) ∧
  (Go.Abs.Label.v39.p (((0 : Int) :: ((5 : Int) :: ([] : List Int))), ())) ∧
  (Go.Abs.Label.v39.p (((4 : Int) :: ((0 : Int) :: ([] : List Int))), ())) ∧
  (Go.Abs.Label.v33.p ((6 : Int), (Go.Abs.Label.fiveR, (((0 : Int) :: ((5 : Int) :: ([] : List Int))), ((3 : Int), (((4 : Int) :: ((0 : Int) :: ([] : List Int))), ())))))) ∧
  (Go.Abs.Label.v39.p (((0 : Int) :: ((5 : Int) :: ([] : List Int))), ())) ∧
  (Go.Abs.Label.v39.p (((4 : Int) :: ((0 : Int) :: ((1 : Int) :: ((3 : Int) :: ((2 : Int) :: ([] : List Int)))))), ())) ∧
  (Go.Abs.Label.v33.p ((6 : Int), (Go.Abs.Label.fiveR, (((0 : Int) :: ((5 : Int) :: ([] : List Int))), ((-(1 : Int) : Int), (((4 : Int) :: ((0 : Int) :: ((1 : Int) :: ((3 : Int) :: ((2 : Int) :: ([] : List Int)))))), ())))))) ∧
  (Go.Abs.Label.v39.p (((0 : Int) :: ([] : List Int)), ())) ∧
  (Go.Abs.Label.v33.p ((6 : Int), (Go.Abs.Label.fiveR, (((0 : Int) :: ([] : List Int)), ((6 : Int), (([] : List Int), ())))))) ∧
  (Go.Abs.Label.v39.p (((0 : Int) :: ((5 : Int) :: ([] : List Int))), ())) ∧
  (Go.Abs.Label.v32.p ((6 : Int), (Go.Abs.Label.fiveR, (((0 : Int) :: ((5 : Int) :: ([] : List Int))), ((3 : Int), ()))))) ∧
  (Go.Abs.Label.v39.p (((0 : Int) :: ([] : List Int)), ())) ∧
  (Go.Abs.Label.v32.p ((6 : Int), (Go.Abs.Label.fiveR, (((0 : Int) :: ([] : List Int)), ((-(1 : Int) : Int), ()))))) ∧
  (Go.Abs.Label.v39.p (((0 : Int) :: ((1 : Int) :: ((2 : Int) :: ((3 : Int) :: ((4 : Int) :: ((5 : Int) :: ([] : List Int))))))), ())) ∧
  (Go.Abs.Label.v18.p ((6 : Int), (Go.Abs.Label.fiveR, (((0 : Int) :: ((1 : Int) :: ((2 : Int) :: ((3 : Int) :: ((4 : Int) :: ((5 : Int) :: ([] : List Int))))))), ((3 : Int), ()))))) ∧
  (Go.Abs.Label.v39.p (((0 : Int) :: ((1 : Int) :: ((2 : Int) :: ((3 : Int) :: ((4 : Int) :: ((5 : Int) :: ([] : List Int))))))), ())) ∧
  (Go.Abs.Label.v20.p ((6 : Int), (Go.Abs.Label.fiveR, (((0 : Int) :: ((1 : Int) :: ((2 : Int) :: ((3 : Int) :: ((4 : Int) :: ((5 : Int) :: ([] : List Int))))))), ())))) ∧
  (Go.Abs.Label.v39.p (((2 : Int) :: ((3 : Int) :: ((4 : Int) :: ([] : List Int)))), ())) ∧
  (Go.Abs.Label.v23.p ((6 : Int), (Go.Abs.Label.fiveR, (((2 : Int) :: ((3 : Int) :: ((4 : Int) :: ([] : List Int)))), ())))) ∧
  (Go.Abs.Label.v25.p ((6 : Int), (Go.Abs.Label.fiveR, ()))) ∧
  (Go.Abs.Label.v27.p ((6 : Int), (Go.Abs.Label.sixR, ((5 : Int), ())))) ∧
  (Go.Abs.Label.v27.p ((6 : Int), (Go.Abs.Label.fiveR, ((0 : Int), ())))) ∧
  (Go.Abs.Label.v27.p ((6 : Int), (Go.Abs.Label.fiveR, ((9 : Int), ())))) ∧
  (Go.Abs.Label.v39.p (((0 : Int) :: ((1 : Int) :: ((2 : Int) :: ((3 : Int) :: ((4 : Int) :: ((5 : Int) :: ([] : List Int))))))), ())) ∧
  (Go.Abs.Label.v17.p ((Go.Abs.Label.folL (6 : Int) Go.Abs.Label.fiveR ((0 : Int) :: ((5 : Int) :: ([] : List Int)))), (((0 : Int) :: ((1 : Int) :: ((2 : Int) :: ((3 : Int) :: ((4 : Int) :: ((5 : Int) :: ([] : List Int))))))), ()))) ∧
  (Go.Abs.Label.v39.p (((0 : Int) :: ((5 : Int) :: ([] : List Int))), ())) ∧
  (Go.Abs.Label.v40.p ((6 : Int), (Go.Abs.Label.fiveR, (((0 : Int) :: ((5 : Int) :: ([] : List Int))), ((3 : Int), ((Go.Abs.Label.stepsL (6 : Int) Go.Abs.Label.fiveR ((0 : Int) :: ((5 : Int) :: ([] : List Int))) (3 : Int)), ())))))) ∧
  (Go.Abs.Label.v39.p (((0 : Int) :: ((1 : Int) :: ([] : List Int))), ())) ∧
  (Go.Abs.Label.v39.p (((0 : Int) :: ((5 : Int) :: ([] : List Int))), ())) ∧
  (Go.Abs.Label.v39.p (((2 : Int) :: ([] : List Int)), ())) ∧
  (Go.Abs.Label.v39.p (((3 : Int) :: ([] : List Int)), ())) ∧
  (Go.Abs.Label.v41.p ((((0 : Int) :: ((1 : Int) :: ([] : List Int))) :: (((0 : Int) :: ((5 : Int) :: ([] : List Int))) :: (((2 : Int) :: ([] : List Int)) :: (((3 : Int) :: ([] : List Int)) :: ([] : List (List Int)))))), ())) ∧
  (Go.Abs.Label.v22.p ((Go.Abs.Label.reaL (6 : Int) Go.Abs.Label.fiveR ((0 : Int) :: ((1 : Int) :: ((2 : Int) :: ((3 : Int) :: ((4 : Int) :: ((5 : Int) :: ([] : List Int))))))) (3 : Int)), ((((0 : Int) :: ((1 : Int) :: ([] : List Int))) :: (((0 : Int) :: ((5 : Int) :: ([] : List Int))) :: (((2 : Int) :: ([] : List Int)) :: (((3 : Int) :: ([] : List Int)) :: ([] : List (List Int)))))), ()))) ∧
  br (((Go.Abs.Label.eqLL (Go.Abs.Label.reaL (6 : Int) Go.Abs.Label.fiveR ((0 : Int) :: ((1 : Int) :: ((2 : Int) :: ((3 : Int) :: ((4 : Int) :: ((5 : Int) :: ([] : List Int))))))) (3 : Int)) (((0 : Int) :: ((1 : Int) :: ([] : List Int))) :: (((0 : Int) :: ((5 : Int) :: ([] : List Int))) :: (((2 : Int) :: ([] : List Int)) :: (((3 : Int) :: ([] : List Int)) :: ([] : List (List Int))))))) == Bool.true))
   ((Go.Abs.Label.v39.p (((0 : Int) :: ((5 : Int) :: ([] : List Int))), ())) ∧
   (Go.Abs.Label.v41.p ((((0 : Int) :: ((5 : Int) :: ([] : List Int))) :: ([] : List (List Int))), ())) ∧
   (Go.Abs.Label.v22.p ((Go.Abs.Label.keyL (6 : Int) Go.Abs.Label.fiveR ((0 : Int) :: ((1 : Int) :: ((2 : Int) :: ((3 : Int) :: ((4 : Int) :: ((5 : Int) :: ([] : List Int)))))))), ((((0 : Int) :: ((5 : Int) :: ([] : List Int))) :: ([] : List (List Int))), ()))) ∧
   (Go.Abs.Label.v39.p (((4 : Int) :: ([] : List Int)), ())) ∧
   (Go.Abs.Label.v17.p ((Go.Abs.Label.takeL (6 : Int) Go.Abs.Label.fiveR ((2 : Int) :: ((3 : Int) :: ((4 : Int) :: ([] : List Int))))), (((4 : Int) :: ([] : List Int)), ()))) ∧
   (k (Go.Abs.AVal.bool (Bool.not (Go.Abs.Label.idleB (6 : Int) Go.Abs.Label.fiveR (0 : Int)))) []))
   ((k (Go.Abs.AVal.bool Bool.false) []))
theorem eq10  (k : AVal → List Cont → Prop) : awpF (envOf [(37, mkC [v37]), (38, mkC [v38]), (39, mkC [v39]), (11, mkC [v11]), (13, mkC [v13]), (33, mkC [v33]), (32, mkC [v32]), (18, mkC [v18]), (20, mkC [v20]), (23, mkC [v23]), (25, mkC [v25]), (27, mkC [v27]), (17, mkC [v17]), (40, mkC [v40]), (41, mkC [v41]), (22, mkC [v22])]) Tryz.prog kt 10 false Tryz.f10 (v10.args ()) (v10.conts ()) k = vc10  k := by kernel_rfl
theorem tx10 : (Tryz.f10.body.map Code.textsOk).getD true = true := by kernel_rfl

end Go.Abs.Label
end

section
/- The label's functions keep their contracts: the examples; what follows, as the statements ask it. -/
open Go.Proofs
set_option maxRecDepth 100000
set_option linter.unusedVariables false
namespace Go.Abs.Label

theorem k76t (hG : Good Tryz.prog (envOf [])) : v76t.Kept Tryz.prog 76 := by
  rintro ⟨w, rs, ⟨⟩⟩ hpre k hk
  change Int at w
  change List (List Int × Int) at rs
  refine aspec hmix hG Tryz.func76 tx76 (Eq.mpr (eq76t w rs k) ?_)
  replace hk : k (.agg [rI w, .imm tRu rs true]) [] := hk
  unfold vc76t
  exact hk

theorem guild_kept : ∀ us cs k, cGuild.run us cs k → ASpec Tryz.prog 76 us cs k := by
  rintro us cs k ⟨h1, h2⟩
  have h1 : guildPre us cs := h1
  unfold guildPre at h1
  split at h1
  · rename_i n l f _
    cases f with
    | false => exact k76 good_nil (n, l, ()) trivial k h2
    | true => exact k76t good_nil (n, l, ()) trivial k h2
  · exact h1.elim
theorem g76 {l : List (FuncId × Contract)} (hG : Good Tryz.prog (envOf l)) : Good Tryz.prog (envOf ((76, cGuild) :: l)) := by
  obtain ⟨c, hc⟩ := Option.isSome_iff_exists.1 (show Tryz.f76.body.isSome = true by kernel_rfl)
  exact good_cons hG Tryz.func76 hc (by kernel_rfl) guild_kept

theorem k37 (hG : Good Tryz.prog (envOf [(77, mkC [v77]), (76, cGuild)])) : v37.Kept Tryz.prog 37 := by
  rintro ⟨⟩ hpre k hk
  refine aspec hmix hG Tryz.func37 tx37 (Eq.mpr (eq37  k) ?_)
  replace hk : k (.agg [rI 6, .imm tRu fiveR true]) [] := hk
  unfold vc37
  exact ⟨trivial, trivial, trivial, trivial, trivial, trivial, hk⟩

theorem k38 (hG : Good Tryz.prog (envOf [(37, mkC [v37]), (77, mkC [v77]), (76, cGuild)])) : v38.Kept Tryz.prog 38 := by
  rintro ⟨⟩ hpre k hk
  refine aspec hmix hG Tryz.func38 tx38 (Eq.mpr (eq38  k) ?_)
  replace hk : k (.agg [rI 6, .imm tRu sixR false]) [] := hk
  unfold vc38
  exact ⟨trivial, trivial, by decide, by decide, trivial, hk⟩

/-! ### lists of words, and sets -/
theorem bits_listed {b n : Nat} (h : b < 2 ^ n) : bitsL (listed b n) = b := by
  apply Nat.eq_of_testBit_eq
  intro i
  rw [Bool.eq_iff_iff, bitsL_test]
  constructor
  · rintro ⟨x, hx, rfl⟩
    obtain ⟨j, rfl, _, hj⟩ := listed_mem.1 hx
    exact hj
  · intro hi
    have : i < n := by
      rcases Nat.lt_or_ge i n with h' | h'
      · exact h'
      · rw [Nat.testBit_lt_two_pow (Nat.lt_of_lt_of_le h (Nat.pow_le_pow_right (by omega) h'))] at hi
        cases hi
    exact ⟨(i : Int), listed_mem.2 ⟨i, rfl, this, hi⟩, rfl⟩
theorem lt_of_tests {b n : Nat} (h : ∀ i, b.testBit i = true → i < n) : b < 2 ^ n := by
  refine Nat.lt_pow_two_of_testBit b (fun i hi => ?_)
  cases hb : b.testBit i with
  | false => rfl
  | true => have := h i hb; omega
theorem bits_ltw {l : List Int} {w : Int} (h : isList l w = true) : bitsL l < 2 ^ w.toNat := by
  refine lt_of_tests (fun i hi => ?_)
  obtain ⟨x, hx, rfl⟩ := (bitsL_test l i).1 hi
  have := (isList_spec.1 h).1 x hx
  omega
theorem listed_bits {l : List Int} {w : Int} (h : isList l w = true) : listed (bitsL l) w.toNat = l := by
  refine sorted_ext (· < ·) (fun a => Int.lt_irrefl a) (fun a b c h1 h2 => Int.lt_trans h1 h2) _ _ (listed_sorted _ _) (isList_spec.1 h).2 (fun x => ?_)
  rw [listed_mem]
  constructor
  · rintro ⟨i, rfl, h1, h2⟩
    obtain ⟨y, hy, e⟩ := (bitsL_test l i).1 h2
    have := (isList_spec.1 h).1 y hy
    have : y = (i : Int) := by omega
    rw [← this]; exact hy
  · intro hx
    have := (isList_spec.1 h).1 x hx
    exact ⟨x.toNat, by omega, by omega, (bitsL_test l _).2 ⟨x, hx, rfl⟩⟩
theorem isList_len {l : List Int} {w : Int} (h : isList l w = true) : l.length ≤ w.toNat := by
  rw [← listed_bits h]; exact listed_len _ _
theorem isList_listed (b : Nat) {w : Int} (h : 0 ≤ w) : isList (listed b w.toNat) w = true := by
  have := listed_isList b w.toNat
  rwa [Int.toNat_of_nonneg h] at this
theorem clo_ltw {w : Int} {rs : List (List Int × Int)} (hg : Gd w rs) {b : Nat} (hb : b < 2 ^ w.toNat) : clo w rs b < 2 ^ w.toNat := by
  refine lt_of_tests (fun i hi => ?_)
  have hr : thensIn w.toNat rs := fun r hr => by have := gd_w hg r hr; have := guild_spec hg; omega
  rcases iter_new hr (w.toNat + 1) b hi with h | h
  · rcases Nat.lt_or_ge i w.toNat with h' | h'
    · exact h'
    · rw [Nat.testBit_lt_two_pow (Nat.lt_of_lt_of_le hb (Nat.pow_le_pow_right (by omega) h'))] at h
      cases h
  · exact h
theorem fol_bits {w : Int} {rs : List (List Int × Int)} {l : List Int} (hg : Gd w rs) (hl : isList l w = true) : folL w rs l = listed (clo w rs (bitsL l)) w.toNat := by
  unfold folL
  have h0 : labelErr w rs l = 0 := by
    unfold labelErr
    rw [if_neg (by simpa using hg), if_pos hl]
  rw [if_pos h0]
  unfold listedI fromI bitsI
  rw [Int.toNat_natCast, Int.toNat_natCast]

theorem k31 (hG : Good Tryz.prog (envOf [(11, mkC [v11]), (13, mkC [v13]), (56, mkC [v56]), (47, mkC [v47])])) : v31.Kept Tryz.prog 31 := by
  rintro ⟨w, rs, l, ⟨⟩⟩ hpre k hk
  change Int at w
  change List (List Int × Int) at rs
  change List Int at l
  refine aspec hmix hG Tryz.func31 tx31 (Eq.mpr (eq31 w rs l k) ?_)
  replace hk : k (.tup [rI (fromI w rs (bitsI l)), rBo (banI w rs (bitsI l)), rBo true]) [] := hk
  unfold vc31
  obtain ⟨hg, hl⟩ := hpre
  have hg : Gd w rs := hg
  have hl : isList l w = true := hl
  obtain ⟨hw1, hw2, hrl, _⟩ := guild_spec hg
  have h0 : labelErr w rs l = 0 := by
    unfold labelErr
    rw [if_neg (by simpa using hg), if_pos hl]
  obtain ⟨_, hl9, hbB⟩ := label_isB h0
  have hlen := isList_len hl
  have hls : isList (folL w rs l) w = true := by rw [fol_bits hg hl]; exact isList_listed _ (by omega)
  have hfl := isList_len hls
  have hbw := bits_ltw hl
  have hcw := clo_ltw hg hbw
  have ef : bitsI (folL w rs l) = fromI w rs (bitsI l) := by
    rw [fol_bits hg hl]
    unfold bitsI fromI
    rw [bits_listed hcw, Int.toNat_natCast]
  have eb : banL w rs l = banI w rs (bitsI l) := by unfold banL; rw [h0]; rfl
  have efB := gd_isB hg hbB
  refine ⟨⟨gd_small hg, (show l.length ≤ 1000 by omega)⟩, ⟨gd_small hg, (show l.length ≤ 1000 by omega)⟩, ?_⟩
  rw [h0, br_bf]
  refine ⟨fun _ => ?_, fun h => by cases h⟩
  rw [br_bf]
  refine ⟨fun _ => ⟨⟨(show (folL w rs l).length ≤ 1152921504606846976 by omega), (show (0 : Int) ≤ w by omega), (show w ≤ 1000 by omega)⟩, ?_⟩, fun h => by cases h⟩
  rw [hls, br_not]

  refine ⟨fun h => (by cases h), fun _ => ⟨⟨(show (folL w rs l).length ≤ 1000 by omega), list_inL (by omega) hls⟩, ⟨(show l.length ≤ 1000 by omega), hl9⟩, ?_⟩⟩
  have e3 : (bitsA .and .i64 (fromI w rs (bitsI l)) (bitsI l) == bitsI l) = true := by
    rw [and_has efB hbB]
    unfold hasI fromI bitsI
    rw [Int.toNat_natCast, Int.toNat_natCast]
    exact clo_sub _ _ _
  rw [ef, eb, e3]
  exact hk

def shortB (x : List Int) : Bool := decide (x.length ≤ 1000)
theorem k10 (hG : Good Tryz.prog (envOf [(37, mkC [v37]), (38, mkC [v38]), (39, mkC [v39]), (11, mkC [v11]), (13, mkC [v13]), (33, mkC [v33]), (32, mkC [v32]), (18, mkC [v18]), (20, mkC [v20]), (23, mkC [v23]), (25, mkC [v25]), (27, mkC [v27]), (17, mkC [v17]), (40, mkC [v40]), (41, mkC [v41]), (22, mkC [v22])])) : v10.Kept Tryz.prog 10 := by
  rintro ⟨⟩ hpre k hk
  refine aspec hmix hG Tryz.func10 tx10 (Eq.mpr (eq10  k) ?_)
  replace hk : k (rBo true) [] := hk
  unfold vc10
  have l5 : fiveR.length = 5 := rfl
  have s5 : smallG fiveR := by decide
  have s6 : smallG sixR := by decide
  have hr : reaL 6 fiveR [0, 1, 2, 3, 4, 5] 3 = [[0, 1], [0, 5], [2], [3]] := by
    have e1 : wordErr 6 fiveR [0, 1, 2, 3, 4, 5] 3 = 0 := by decide
    have e2 : (minE (goodsR 6 fiveR (andI 0 3) (bitsI [0, 1, 2, 3, 4, 5]))).map (fun e => listI e.2.1) = [[0, 1], [2], [3], [0, 5]] := by decide
    unfold reaL listsE
    rw [if_pos e1, e2]
    exact (sortLL_unique (by decide) (by decide)).symm
  have hkey : keyL 6 fiveR [0, 1, 2, 3, 4, 5] = [[0, 5]] := by
    have e1 : labelErr 6 fiveR [0, 1, 2, 3, 4, 5] = 0 := by decide
    have e2 : (fewE (minE (goodsK 6 fiveR (fromI 6 fiveR (bitsI [0, 1, 2, 3, 4, 5])) (bitsI [0, 1, 2, 3, 4, 5])))).map (fun e => listI e.2.1) = [[0, 5]] := by decide
    unfold keyL listsE
    rw [if_pos e1, e2]
    exact (sortLL_unique (by decide) (by decide)).symm
  have hst : (stepsL 6 fiveR [0, 5] 3).length ≤ 12 := by
    unfold stepsL
    split
    · exact stepL_len _ _ _ _
    · exact Nat.zero_le _
  have hfo : folL 6 fiveR [0, 5] = [0, 1, 2, 3, 4, 5] := by decide
  have hta : takeL 6 fiveR [2, 3, 4] = [4] := by decide
  have hid : idleB 6 fiveR 0 = false := by decide
  rw [hr, hkey, hfo, hta, hid]
  have p2 : ∀ l : List Int, l.length ≤ 12 → v11.p (6, fiveR, l, ()) := fun l h => ⟨s5, (show l.length ≤ 1000 by omega)⟩
  have p13 : ∀ l : List Int, l.length ≤ 12 → v13.p (6, fiveR, l, ()) := fun l h => ⟨s5, (show l.length ≤ 1000 by omega)⟩
  have p33 : ∀ (l : List Int) (x : Int) (s : List Int), l.length ≤ 12 → s.length ≤ 12 → v33.p (6, fiveR, l, x, s, ()) := fun l x s h h2 => ⟨s5, (show l.length ≤ 1000 by omega), (show s.length ≤ 1000 by omega)⟩
  have p40 : ∀ (l : List Int) (x : Int) (s : List Int), l.length ≤ 12 → s.length ≤ 12 → v40.p (6, fiveR, l, x, s, ()) := fun l x s h h2 => ⟨s5, (show l.length ≤ 1000 by omega), (show s.length ≤ 1000 by omega)⟩
  have p32 : ∀ (l : List Int) (x : Int), l.length ≤ 12 → v32.p (6, fiveR, l, x, ()) := fun l x h => ⟨s5, (show l.length ≤ 1000 by omega)⟩
  have p18 : ∀ (l : List Int) (x : Int), l.length ≤ 12 → v18.p (6, fiveR, l, x, ()) := fun l x h => ⟨s5, (show l.length ≤ 1000 by omega)⟩
  have p20 : ∀ (l : List Int), l.length ≤ 12 → v20.p (6, fiveR, l, ()) := fun l h => ⟨s5, (show l.length ≤ 1000 by omega)⟩
  have p23 : ∀ (l : List Int), l.length ≤ 12 → v23.p (6, fiveR, l, ()) := fun l h => ⟨s5, (show l.length ≤ 1000 by omega)⟩
  have p17 : ∀ (l m : List Int), l.length ≤ 12 → m.length ≤ 12 → v17.p (l, m, ()) := fun l m h h2 => ⟨(show l.length ≤ 1152921504606846976 by omega), (show m.length ≤ 1152921504606846976 by omega)⟩
  have p22 : ∀ (l m : List (List Int)), l.length ≤ 12 → m.length ≤ 12 → l.all shortB = true → m.all shortB = true → v22.p (l, m, ()) := fun l m h h2 h3 h4 => ⟨(show l.length ≤ 2000 by omega), (show m.length ≤ 2000 by omega), fun x hx => of_decide_eq_true (List.all_eq_true.1 h3 x hx), fun x hx => of_decide_eq_true (List.all_eq_true.1 h4 x hx)⟩
  refine ⟨trivial, trivial, trivial, p2 _ (by decide), trivial, p2 _ (by decide), trivial, p13 _ (by decide), trivial, p13 _ (by decide), trivial, trivial, p33 _ _ _ (by decide) (by decide), trivial, trivial, p33 _ _ _ (by decide) (by decide), trivial, trivial, p33 _ _ _ (by decide) (by decide), trivial, trivial, p33 _ _ _ (by decide) (by decide), trivial, p33 _ _ _ (by decide) (by decide), trivial, p32 _ _ (by decide), trivial, p32 _ _ (by decide), trivial, p18 _ _ (by decide), trivial, p20 _ (by decide), trivial, p23 _ (by decide), s5, s6, s5, s5, trivial, p17 _ _ (by decide) (by decide), trivial, p40 _ _ _ (by decide) hst, trivial, trivial, trivial, trivial, trivial, p22 _ _ (by decide) (by decide) (by decide) (by decide), ?_⟩
  rw [br_bt]
  exact ⟨fun _ => ⟨trivial, trivial, p22 _ _ (by decide) (by decide) (by decide) (by decide), trivial, p17 _ _ (by decide) (by decide), hk⟩, fun h => absurd h (by decide)⟩
end Go.Abs.Label
end

section
/- The contracts of the label's statements. -/
namespace Go.Abs.Label
abbrev yes : RTree := one (rBo true)
abbrev is16 (n : Int) : Prop := 0 ≤ n ∧ n ≤ 65535
abbrev is8 (n : Int) : Prop := 0 ≤ n ∧ n ≤ 255
def v3 : Var := ⟨.cs sG (.cs sL .nl), [], fun _ => True, fun _ => yes⟩
def v4 : Var := ⟨.cs sG (.cs sL (.cs sI .nl)), [], fun _ => True, fun _ => yes⟩
def v5 : Var := ⟨.cs sG (.cs sL (.cs sI .nl)), [], fun _ => True, fun _ => yes⟩
def v6 : Var := ⟨.cs sG (.cs (.int .u16) (.cs (.int .u8) (.cs sL .nl))), [], fun x => is16 x.2.2.1 ∧ is8 x.2.2.2.1, fun _ => yes⟩
def v7 : Var := ⟨.cs sG (.cs (.int .u16) (.cs (.int .u16) .nl)), [], fun x => is16 x.2.2.1 ∧ is16 x.2.2.2.1, fun _ => yes⟩
end Go.Abs.Label
end

section
/- Conditions and their equations, printed by a program. -/
open Go.Proofs
set_option maxRecDepth 100000
set_option linter.unusedVariables false
namespace Go.Abs.Label
def vc3 (w : Int) (rs : List (List Int × Int)) (l : List Int) (k : AVal → List Cont → Prop) : Prop :=
  (Go.Abs.Label.v8.p (w, (rs, ()))) ∧
  br (((Go.Abs.Label.greatG rs) == Bool.false))
   ((Go.Abs.Label.v9.p (l, ())) ∧
   br ((Go.Abs.Label.longL l))
    ((Go.Abs.Label.v10.p ()) ∧
    (k (Go.Abs.AVal.bool Bool.true) []))
    ((Go.Abs.Label.v11.p (w, (rs, (l, ())))) ∧
    (Go.Abs.Label.v12.p (w, (rs, (l, ())))) ∧
    (Go.Abs.Label.v13.p (w, (rs, (l, ())))) ∧
    (Go.Abs.Label.v14.p (w, (rs, (l, ())))) ∧
    (Go.Abs.Label.v15.p (w, (rs, ()))) ∧
    (Go.Abs.Label.v16.p (w, (rs, ()))) ∧
    br ((((Go.Abs.Label.guildErr w rs) == (Go.Abs.Label.guildErr w rs)) == Bool.true))
     ((Go.Abs.Label.v17.p ((Go.Abs.Label.folL w rs l), ((Go.Abs.Label.folL w rs l), ()))) ∧
     br (((Go.Abs.Label.eqL (Go.Abs.Label.folL w rs l) (Go.Abs.Label.folL w rs l)) == Bool.true))
      (br ((((Go.Abs.Label.labelErr w rs l) == (Go.Abs.Label.labelErr w rs l)) == Bool.true))
       (br ((((Go.Abs.Label.banL w rs l) == (Go.Abs.Label.banL w rs l)) == Bool.true))
        (br ((((Go.Abs.Label.labelErr w rs l) == (Go.Abs.Label.labelErr w rs l)) == Bool.true))
         ((Go.Abs.Label.v10.p ()) ∧
         (k (Go.Abs.AVal.bool Bool.true) []))
         ((k (Go.Abs.AVal.bool Bool.false) [])))
        ((k (Go.Abs.AVal.bool Bool.false) [])))
       ((k (Go.Abs.AVal.bool Bool.false) [])))
      ((k (Go.Abs.AVal.bool Bool.false) [])))
     ((k (Go.Abs.AVal.bool Bool.false) []))))
   ((Go.Abs.Label.v10.p ()) ∧
   (k (Go.Abs.AVal.bool Bool.true) []))
theorem eq3 (w : Int) (rs : List (List Int × Int)) (l : List Int) (k : AVal → List Cont → Prop) : awpF (envOf [(8, mkC [v8]), (9, mkC [v9]), (10, mkC [v10]), (11, mkC [v11]), (12, mkC [v12]), (13, mkC [v13]), (14, mkC [v14]), (15, mkC [v15]), (16, mkC [v16]), (17, mkC [v17])]) Tryz.prog kt 3 false Tryz.f3 (v3.args (w, rs, l, ())) (v3.conts (w, rs, l, ())) k = vc3 w rs l k := by kernel_rfl
theorem tx3 : (Tryz.f3.body.map Code.textsOk).getD true = true := by kernel_rfl

def vc4 (w : Int) (rs : List (List Int × Int)) (l : List Int) (x : Int) (k : AVal → List Cont → Prop) : Prop :=
  (Go.Abs.Label.v8.p (w, (rs, ()))) ∧
  br (((Go.Abs.Label.greatG rs) == Bool.false))
   ((Go.Abs.Label.v9.p (l, ())) ∧
   br ((Go.Abs.Label.longL l))
    ((Go.Abs.Label.v10.p ()) ∧
    (k (Go.Abs.AVal.bool Bool.true) []))
    ((Go.Abs.Label.v18.p (w, (rs, (l, (x, ()))))) ∧
    (Go.Abs.Label.v19.p (w, (rs, (l, (x, ()))))) ∧
    (Go.Abs.Label.v20.p (w, (rs, (l, ())))) ∧
    (Go.Abs.Label.v21.p (w, (rs, (l, ())))) ∧
    (Go.Abs.Label.v22.p ((Go.Abs.Label.reaL w rs l x), ((Go.Abs.Label.reaL2 w rs l x), ()))) ∧
    br (((Go.Abs.Label.eqLL (Go.Abs.Label.reaL w rs l x) (Go.Abs.Label.reaL2 w rs l x)) == Bool.true))
     (br ((((Go.Abs.Label.wordErr w rs l x) == (Go.Abs.Label.wordErr w rs l x)) == Bool.true))
      ((Go.Abs.Label.v22.p ((Go.Abs.Label.keyL w rs l), ((Go.Abs.Label.keyL2 w rs l), ()))) ∧
      br (((Go.Abs.Label.eqLL (Go.Abs.Label.keyL w rs l) (Go.Abs.Label.keyL2 w rs l)) == Bool.true))
       (br ((((Go.Abs.Label.labelErr w rs l) == (Go.Abs.Label.labelErr w rs l)) == Bool.true))
        ((Go.Abs.Label.v10.p ()) ∧
        (k (Go.Abs.AVal.bool Bool.true) []))
        ((k (Go.Abs.AVal.bool Bool.false) [])))
       ((k (Go.Abs.AVal.bool Bool.false) [])))
      ((k (Go.Abs.AVal.bool Bool.false) [])))
     ((k (Go.Abs.AVal.bool Bool.false) []))))
   ((Go.Abs.Label.v10.p ()) ∧
   (k (Go.Abs.AVal.bool Bool.true) []))
theorem eq4 (w : Int) (rs : List (List Int × Int)) (l : List Int) (x : Int) (k : AVal → List Cont → Prop) : awpF (envOf [(8, mkC [v8]), (9, mkC [v9]), (10, mkC [v10]), (18, mkC [v18]), (19, mkC [v19]), (20, mkC [v20]), (21, mkC [v21]), (22, mkC [v22])]) Tryz.prog kt 4 false Tryz.f4 (v4.args (w, rs, l, x, ())) (v4.conts (w, rs, l, x, ())) k = vc4 w rs l x k := by kernel_rfl
theorem tx4 : (Tryz.f4.body.map Code.textsOk).getD true = true := by kernel_rfl

def vc5 (w : Int) (rs : List (List Int × Int)) (l : List Int) (x : Int) (k : AVal → List Cont → Prop) : Prop :=
  (Go.Abs.Label.v8.p (w, (rs, ()))) ∧
  br (((Go.Abs.Label.greatG rs) == Bool.false))
   ((Go.Abs.Label.v9.p (l, ())) ∧
   br ((Go.Abs.Label.longL l))
    ((Go.Abs.Label.v10.p ()) ∧
    (k (Go.Abs.AVal.bool Bool.true) []))
    ((Go.Abs.Label.v23.p (w, (rs, (l, ())))) ∧
    (Go.Abs.Label.v24.p (w, (rs, (l, ())))) ∧
    (Go.Abs.Label.v25.p (w, (rs, ()))) ∧
    (Go.Abs.Label.v26.p (w, (rs, ()))) ∧
    (Go.Abs.Label.v27.p (w, (rs, (x, ())))) ∧
    (Go.Abs.Label.v28.p (w, (rs, (x, ())))) ∧
    (Go.Abs.Label.v17.p ((Go.Abs.Label.takeL w rs l), ((Go.Abs.Label.takeL2 w rs l), ()))) ∧
    br (((Go.Abs.Label.eqL (Go.Abs.Label.takeL w rs l) (Go.Abs.Label.takeL2 w rs l)) == Bool.true))
     (br ((((Go.Abs.Label.takeErr w rs l) == (Go.Abs.Label.takeErr w rs l)) == Bool.true))
      (br ((((Go.Abs.Label.closL w rs) == (Go.Abs.Label.closL w rs)) == Bool.true))
       (br ((((Go.Abs.Label.guildErr w rs) == (Go.Abs.Label.guildErr w rs)) == Bool.true))
        (br ((((Go.Abs.Label.idleB w rs x) == (Go.Abs.Label.idleB2 w rs x)) == Bool.true))
         (br ((((Go.Abs.Label.idleErr w rs x) == (Go.Abs.Label.idleErr w rs x)) == Bool.true))
          ((Go.Abs.Label.v10.p ()) ∧
          (k (Go.Abs.AVal.bool Bool.true) []))
          ((k (Go.Abs.AVal.bool Bool.false) [])))
         ((k (Go.Abs.AVal.bool Bool.false) [])))
        ((k (Go.Abs.AVal.bool Bool.false) [])))
       ((k (Go.Abs.AVal.bool Bool.false) [])))
      ((k (Go.Abs.AVal.bool Bool.false) [])))
     ((k (Go.Abs.AVal.bool Bool.false) []))))
   ((Go.Abs.Label.v10.p ()) ∧
   (k (Go.Abs.AVal.bool Bool.true) []))
theorem eq5 (w : Int) (rs : List (List Int × Int)) (l : List Int) (x : Int) (k : AVal → List Cont → Prop) : awpF (envOf [(8, mkC [v8]), (9, mkC [v9]), (10, mkC [v10]), (23, mkC [v23]), (24, mkC [v24]), (25, mkC [v25]), (26, mkC [v26]), (27, mkC [v27]), (28, mkC [v28]), (17, mkC [v17])]) Tryz.prog kt 5 false Tryz.f5 (v5.args (w, rs, l, x, ())) (v5.conts (w, rs, l, x, ())) k = vc5 w rs l x k := by kernel_rfl
theorem tx5 : (Tryz.f5.body.map Code.textsOk).getD true = true := by kernel_rfl

def vc6 (w : Int) (rs : List (List Int × Int)) (bits num : Int) (s : List Int) (k : AVal → List Cont → Prop) : Prop :=
  (Go.Abs.Label.v29.p (w, (rs, ()))) ∧
  br (((Bool.not (Go.Abs.Label.fine w rs)) == Bool.false))
   ((Go.Abs.Label.v9.p (s, ())) ∧
   br ((Go.Abs.Label.longL s))
    ((Go.Abs.Label.v10.p ()) ∧
    (k (Go.Abs.AVal.bool Bool.true) []))
    ((Go.Abs.Label.v30.p (w, (rs, (bits, ())))) ∧
    (Go.Abs.fitsK Go.IntKind.i64 num) ∧
    (Go.Abs.fitsK Go.IntKind.i64 (w + (1 : Int))) ∧
    (((0 : Int) ≤ num) ∧ ((0 : Int) < (w + (1 : Int)))) ∧
    (Go.Abs.fitsK Go.IntKind.i64 ((HMod.hMod num (w + (1 : Int))) - (1 : Int))) ∧
    (Go.Abs.Label.v31.p (w, (rs, ((Go.Abs.Label.listedI bits w), ())))) ∧
    (Go.Abs.Label.v32.p (w, (rs, ((Go.Abs.Label.listedI bits w), (((HMod.hMod num (w + (1 : Int))) - (1 : Int)), ()))))) ∧
    (Go.Abs.Label.v33.p (w, (rs, ((Go.Abs.Label.listedI bits w), (((HMod.hMod num (w + (1 : Int))) - (1 : Int)), (s, ())))))) ∧
    (Go.Abs.Label.v9.p ((Go.Abs.Label.stepsL w rs (Go.Abs.Label.listedI bits w) ((HMod.hMod num (w + (1 : Int))) - (1 : Int))), ())) ∧
    br ((Go.Abs.Label.longL (Go.Abs.Label.stepsL w rs (Go.Abs.Label.listedI bits w) ((HMod.hMod num (w + (1 : Int))) - (1 : Int)))))
     ((k (Go.Abs.AVal.bool Bool.false) []))
     (br (((decide (((HMod.hMod num (w + (1 : Int))) - (1 : Int)) < (0 : Int))) == Bool.true))
      (br (((Go.Abs.Label.banI w rs (Go.Abs.Label.bitsI (Go.Abs.Label.listedI bits w))) == Bool.false))
       (br (((decide (((HMod.hMod num (w + (1 : Int))) - (1 : Int)) ≥ (0 : Int))) == Bool.true))
        (((0 : Int) ≤ (ite (((HMod.hMod num (w + (1 : Int))) - (1 : Int)) > (0 : Int)) ((HMod.hMod num (w + (1 : Int))) - (1 : Int)) (0 : Int))) ∧
        br ((((Go.Abs.Label.chkS w rs (Go.Abs.Label.listedI bits w) ((HMod.hMod num (w + (1 : Int))) - (1 : Int)) s) == (0 : Int)) == Bool.true))
         (br ((Bool.not ((Go.Abs.bitsA Go.BinOp.and Go.IntKind.i64 (Go.Abs.shrA Go.IntKind.i64 (Go.Abs.Label.fromI w rs (Go.Abs.Label.bitsI (Go.Abs.Label.listedI bits w))) (ite (((HMod.hMod num (w + (1 : Int))) - (1 : Int)) > (0 : Int)) ((HMod.hMod num (w + (1 : Int))) - (1 : Int)) (0 : Int))) (1 : Int)) == (1 : Int))))
          ((k (Go.Abs.AVal.bool Bool.false) []))
          (br ((Bool.not ((Go.Abs.bitsA Go.BinOp.and Go.IntKind.i64 (Go.Abs.shrA Go.IntKind.i64 (Go.Abs.Label.fromI w rs (Go.Abs.Label.bitsI (Go.Abs.Label.listedI bits w))) (ite (((HMod.hMod num (w + (1 : Int))) - (1 : Int)) > (0 : Int)) ((HMod.hMod num (w + (1 : Int))) - (1 : Int)) (0 : Int))) (1 : Int)) == (1 : Int))))
           (br ((((Go.Abs.Label.stepErr w rs (Go.Abs.Label.listedI bits w) ((HMod.hMod num (w + (1 : Int))) - (1 : Int))) == (5 : Int)) == Bool.true))
            (br ((((((List.length (Go.Abs.Label.stepsL w rs (Go.Abs.Label.listedI bits w) ((HMod.hMod num (w + (1 : Int))) - (1 : Int)))) : Nat) : Int) == (0 : Int)) == Bool.true))
             ((Go.Abs.Label.v10.p ()) ∧
             (k (Go.Abs.AVal.bool Bool.true) []))
             ((k (Go.Abs.AVal.bool Bool.false) [])))
            ((k (Go.Abs.AVal.bool Bool.false) [])))
           (br ((((Go.Abs.Label.stepErr w rs (Go.Abs.Label.listedI bits w) ((HMod.hMod num (w + (1 : Int))) - (1 : Int))) == (0 : Int)) == Bool.true))
            ((Go.Abs.Label.v33.p (w, (rs, ((Go.Abs.Label.listedI bits w), (((HMod.hMod num (w + (1 : Int))) - (1 : Int)), ((Go.Abs.Label.stepsL w rs (Go.Abs.Label.listedI bits w) ((HMod.hMod num (w + (1 : Int))) - (1 : Int))), ())))))) ∧
            br ((((Go.Abs.Label.chkS w rs (Go.Abs.Label.listedI bits w) ((HMod.hMod num (w + (1 : Int))) - (1 : Int)) (Go.Abs.Label.stepsL w rs (Go.Abs.Label.listedI bits w) ((HMod.hMod num (w + (1 : Int))) - (1 : Int)))) == (0 : Int)) == Bool.true))
             ((Go.Abs.Label.v34.p (w, (rs, ((Go.Abs.Label.listedI bits w), (((HMod.hMod num (w + (1 : Int))) - (1 : Int)), ((Go.Abs.Label.stepsL w rs (Go.Abs.Label.listedI bits w) ((HMod.hMod num (w + (1 : Int))) - (1 : Int))), ())))))) ∧
             br (((Go.Abs.Label.needS w rs (Go.Abs.Label.listedI bits w) ((HMod.hMod num (w + (1 : Int))) - (1 : Int)) (Go.Abs.Label.stepsL w rs (Go.Abs.Label.listedI bits w) ((HMod.hMod num (w + (1 : Int))) - (1 : Int)))) == Bool.true))
              ((Go.Abs.Label.v10.p ()) ∧
              (k (Go.Abs.AVal.bool Bool.true) []))
              ((k (Go.Abs.AVal.bool Bool.false) [])))
             ((k (Go.Abs.AVal.bool Bool.false) [])))
            ((k (Go.Abs.AVal.bool Bool.false) [])))))
         (br ((Bool.not ((Go.Abs.bitsA Go.BinOp.and Go.IntKind.i64 (Go.Abs.shrA Go.IntKind.i64 (Go.Abs.Label.fromI w rs (Go.Abs.Label.bitsI (Go.Abs.Label.listedI bits w))) (ite (((HMod.hMod num (w + (1 : Int))) - (1 : Int)) > (0 : Int)) ((HMod.hMod num (w + (1 : Int))) - (1 : Int)) (0 : Int))) (1 : Int)) == (1 : Int))))
          (br ((((Go.Abs.Label.stepErr w rs (Go.Abs.Label.listedI bits w) ((HMod.hMod num (w + (1 : Int))) - (1 : Int))) == (5 : Int)) == Bool.true))
           (br ((((((List.length (Go.Abs.Label.stepsL w rs (Go.Abs.Label.listedI bits w) ((HMod.hMod num (w + (1 : Int))) - (1 : Int)))) : Nat) : Int) == (0 : Int)) == Bool.true))
            ((Go.Abs.Label.v10.p ()) ∧
            (k (Go.Abs.AVal.bool Bool.true) []))
            ((k (Go.Abs.AVal.bool Bool.false) [])))
           ((k (Go.Abs.AVal.bool Bool.false) [])))
          (br ((((Go.Abs.Label.stepErr w rs (Go.Abs.Label.listedI bits w) ((HMod.hMod num (w + (1 : Int))) - (1 : Int))) == (0 : Int)) == Bool.true))
           ((Go.Abs.Label.v33.p (w, (rs, ((Go.Abs.Label.listedI bits w), (((HMod.hMod num (w + (1 : Int))) - (1 : Int)), ((Go.Abs.Label.stepsL w rs (Go.Abs.Label.listedI bits w) ((HMod.hMod num (w + (1 : Int))) - (1 : Int))), ())))))) ∧
           br ((((Go.Abs.Label.chkS w rs (Go.Abs.Label.listedI bits w) ((HMod.hMod num (w + (1 : Int))) - (1 : Int)) (Go.Abs.Label.stepsL w rs (Go.Abs.Label.listedI bits w) ((HMod.hMod num (w + (1 : Int))) - (1 : Int)))) == (0 : Int)) == Bool.true))
            ((Go.Abs.Label.v34.p (w, (rs, ((Go.Abs.Label.listedI bits w), (((HMod.hMod num (w + (1 : Int))) - (1 : Int)), ((Go.Abs.Label.stepsL w rs (Go.Abs.Label.listedI bits w) ((HMod.hMod num (w + (1 : Int))) - (1 : Int))), ())))))) ∧
            br (((Go.Abs.Label.needS w rs (Go.Abs.Label.listedI bits w) ((HMod.hMod num (w + (1 : Int))) - (1 : Int)) (Go.Abs.Label.stepsL w rs (Go.Abs.Label.listedI bits w) ((HMod.hMod num (w + (1 : Int))) - (1 : Int)))) == Bool.true))
             ((Go.Abs.Label.v10.p ()) ∧
             (k (Go.Abs.AVal.bool Bool.true) []))
             ((k (Go.Abs.AVal.bool Bool.false) [])))
            ((k (Go.Abs.AVal.bool Bool.false) [])))
           ((k (Go.Abs.AVal.bool Bool.false) [])))))
        (br ((((Go.Abs.Label.chkS w rs (Go.Abs.Label.listedI bits w) ((HMod.hMod num (w + (1 : Int))) - (1 : Int)) s) == (0 : Int)) == Bool.true))
         ((k (Go.Abs.AVal.bool Bool.false) []))
         (br ((((Go.Abs.Label.stepErr w rs (Go.Abs.Label.listedI bits w) ((HMod.hMod num (w + (1 : Int))) - (1 : Int))) == (5 : Int)) == Bool.true))
          (br ((((((List.length (Go.Abs.Label.stepsL w rs (Go.Abs.Label.listedI bits w) ((HMod.hMod num (w + (1 : Int))) - (1 : Int)))) : Nat) : Int) == (0 : Int)) == Bool.true))
           ((Go.Abs.Label.v10.p ()) ∧
           (k (Go.Abs.AVal.bool Bool.true) []))
           ((k (Go.Abs.AVal.bool Bool.false) [])))
          ((k (Go.Abs.AVal.bool Bool.false) [])))))
       (br ((((Go.Abs.Label.chkS w rs (Go.Abs.Label.listedI bits w) ((HMod.hMod num (w + (1 : Int))) - (1 : Int)) s) == (0 : Int)) == Bool.true))
        (br ((((Go.Abs.Label.stepErr w rs (Go.Abs.Label.listedI bits w) ((HMod.hMod num (w + (1 : Int))) - (1 : Int))) == (0 : Int)) == Bool.true))
         ((Go.Abs.Label.v33.p (w, (rs, ((Go.Abs.Label.listedI bits w), (((HMod.hMod num (w + (1 : Int))) - (1 : Int)), ((Go.Abs.Label.stepsL w rs (Go.Abs.Label.listedI bits w) ((HMod.hMod num (w + (1 : Int))) - (1 : Int))), ())))))) ∧
         br ((((Go.Abs.Label.chkS w rs (Go.Abs.Label.listedI bits w) ((HMod.hMod num (w + (1 : Int))) - (1 : Int)) (Go.Abs.Label.stepsL w rs (Go.Abs.Label.listedI bits w) ((HMod.hMod num (w + (1 : Int))) - (1 : Int)))) == (0 : Int)) == Bool.true))
          ((Go.Abs.Label.v34.p (w, (rs, ((Go.Abs.Label.listedI bits w), (((HMod.hMod num (w + (1 : Int))) - (1 : Int)), ((Go.Abs.Label.stepsL w rs (Go.Abs.Label.listedI bits w) ((HMod.hMod num (w + (1 : Int))) - (1 : Int))), ())))))) ∧
          br (((Go.Abs.Label.needS w rs (Go.Abs.Label.listedI bits w) ((HMod.hMod num (w + (1 : Int))) - (1 : Int)) (Go.Abs.Label.stepsL w rs (Go.Abs.Label.listedI bits w) ((HMod.hMod num (w + (1 : Int))) - (1 : Int)))) == Bool.true))
           ((Go.Abs.Label.v10.p ()) ∧
           (k (Go.Abs.AVal.bool Bool.true) []))
           ((k (Go.Abs.AVal.bool Bool.false) [])))
          ((k (Go.Abs.AVal.bool Bool.false) [])))
         ((k (Go.Abs.AVal.bool Bool.false) [])))
        (br ((((Go.Abs.Label.stepErr w rs (Go.Abs.Label.listedI bits w) ((HMod.hMod num (w + (1 : Int))) - (1 : Int))) == (0 : Int)) == Bool.true))
         ((Go.Abs.Label.v33.p (w, (rs, ((Go.Abs.Label.listedI bits w), (((HMod.hMod num (w + (1 : Int))) - (1 : Int)), ((Go.Abs.Label.stepsL w rs (Go.Abs.Label.listedI bits w) ((HMod.hMod num (w + (1 : Int))) - (1 : Int))), ())))))) ∧
         br ((((Go.Abs.Label.chkS w rs (Go.Abs.Label.listedI bits w) ((HMod.hMod num (w + (1 : Int))) - (1 : Int)) (Go.Abs.Label.stepsL w rs (Go.Abs.Label.listedI bits w) ((HMod.hMod num (w + (1 : Int))) - (1 : Int)))) == (0 : Int)) == Bool.true))
          ((Go.Abs.Label.v34.p (w, (rs, ((Go.Abs.Label.listedI bits w), (((HMod.hMod num (w + (1 : Int))) - (1 : Int)), ((Go.Abs.Label.stepsL w rs (Go.Abs.Label.listedI bits w) ((HMod.hMod num (w + (1 : Int))) - (1 : Int))), ())))))) ∧
          br (((Go.Abs.Label.needS w rs (Go.Abs.Label.listedI bits w) ((HMod.hMod num (w + (1 : Int))) - (1 : Int)) (Go.Abs.Label.stepsL w rs (Go.Abs.Label.listedI bits w) ((HMod.hMod num (w + (1 : Int))) - (1 : Int)))) == Bool.true))
           ((Go.Abs.Label.v10.p ()) ∧
           (k (Go.Abs.AVal.bool Bool.true) []))
           ((k (Go.Abs.AVal.bool Bool.false) [])))
          ((k (Go.Abs.AVal.bool Bool.false) [])))
         ((k (Go.Abs.AVal.bool Bool.false) [])))))
      (br (((decide (((HMod.hMod num (w + (1 : Int))) - (1 : Int)) ≥ (0 : Int))) == Bool.true))
       (((0 : Int) ≤ (ite (((HMod.hMod num (w + (1 : Int))) - (1 : Int)) > (0 : Int)) ((HMod.hMod num (w + (1 : Int))) - (1 : Int)) (0 : Int))) ∧
       br ((((Go.Abs.Label.chkS w rs (Go.Abs.Label.listedI bits w) ((HMod.hMod num (w + (1 : Int))) - (1 : Int)) s) == (0 : Int)) == Bool.true))
        (br ((Bool.not ((Go.Abs.bitsA Go.BinOp.and Go.IntKind.i64 (Go.Abs.shrA Go.IntKind.i64 (Go.Abs.Label.fromI w rs (Go.Abs.Label.bitsI (Go.Abs.Label.listedI bits w))) (ite (((HMod.hMod num (w + (1 : Int))) - (1 : Int)) > (0 : Int)) ((HMod.hMod num (w + (1 : Int))) - (1 : Int)) (0 : Int))) (1 : Int)) == (1 : Int))))
         ((k (Go.Abs.AVal.bool Bool.false) []))
         (br ((Bool.not ((Go.Abs.bitsA Go.BinOp.and Go.IntKind.i64 (Go.Abs.shrA Go.IntKind.i64 (Go.Abs.Label.fromI w rs (Go.Abs.Label.bitsI (Go.Abs.Label.listedI bits w))) (ite (((HMod.hMod num (w + (1 : Int))) - (1 : Int)) > (0 : Int)) ((HMod.hMod num (w + (1 : Int))) - (1 : Int)) (0 : Int))) (1 : Int)) == (1 : Int))))
          (br ((((Go.Abs.Label.stepErr w rs (Go.Abs.Label.listedI bits w) ((HMod.hMod num (w + (1 : Int))) - (1 : Int))) == (5 : Int)) == Bool.true))
           (br ((((((List.length (Go.Abs.Label.stepsL w rs (Go.Abs.Label.listedI bits w) ((HMod.hMod num (w + (1 : Int))) - (1 : Int)))) : Nat) : Int) == (0 : Int)) == Bool.true))
            ((Go.Abs.Label.v10.p ()) ∧
            (k (Go.Abs.AVal.bool Bool.true) []))
            ((k (Go.Abs.AVal.bool Bool.false) [])))
           ((k (Go.Abs.AVal.bool Bool.false) [])))
          (br ((((Go.Abs.Label.stepErr w rs (Go.Abs.Label.listedI bits w) ((HMod.hMod num (w + (1 : Int))) - (1 : Int))) == (0 : Int)) == Bool.true))
           ((Go.Abs.Label.v33.p (w, (rs, ((Go.Abs.Label.listedI bits w), (((HMod.hMod num (w + (1 : Int))) - (1 : Int)), ((Go.Abs.Label.stepsL w rs (Go.Abs.Label.listedI bits w) ((HMod.hMod num (w + (1 : Int))) - (1 : Int))), ())))))) ∧
           br ((((Go.Abs.Label.chkS w rs (Go.Abs.Label.listedI bits w) ((HMod.hMod num (w + (1 : Int))) - (1 : Int)) (Go.Abs.Label.stepsL w rs (Go.Abs.Label.listedI bits w) ((HMod.hMod num (w + (1 : Int))) - (1 : Int)))) == (0 : Int)) == Bool.true))
            ((Go.Abs.Label.v34.p (w, (rs, ((Go.Abs.Label.listedI bits w), (((HMod.hMod num (w + (1 : Int))) - (1 : Int)), ((Go.Abs.Label.stepsL w rs (Go.Abs.Label.listedI bits w) ((HMod.hMod num (w + (1 : Int))) - (1 : Int))), ())))))) ∧
            br (((Go.Abs.Label.needS w rs (Go.Abs.Label.listedI bits w) ((HMod.hMod num (w + (1 : Int))) - (1 : Int)) (Go.Abs.Label.stepsL w rs (Go.Abs.Label.listedI bits w) ((HMod.hMod num (w + (1 : Int))) - (1 : Int)))) == Bool.true))
             ((Go.Abs.Label.v10.p ()) ∧
             (k (Go.Abs.AVal.bool Bool.true) []))
             ((k (Go.Abs.AVal.bool Bool.false) [])))
            ((k (Go.Abs.AVal.bool Bool.false) [])))
           ((k (Go.Abs.AVal.bool Bool.false) [])))))
        (br ((Bool.not ((Go.Abs.bitsA Go.BinOp.and Go.IntKind.i64 (Go.Abs.shrA Go.IntKind.i64 (Go.Abs.Label.fromI w rs (Go.Abs.Label.bitsI (Go.Abs.Label.listedI bits w))) (ite (((HMod.hMod num (w + (1 : Int))) - (1 : Int)) > (0 : Int)) ((HMod.hMod num (w + (1 : Int))) - (1 : Int)) (0 : Int))) (1 : Int)) == (1 : Int))))
         (br ((((Go.Abs.Label.stepErr w rs (Go.Abs.Label.listedI bits w) ((HMod.hMod num (w + (1 : Int))) - (1 : Int))) == (5 : Int)) == Bool.true))
          (br ((((((List.length (Go.Abs.Label.stepsL w rs (Go.Abs.Label.listedI bits w) ((HMod.hMod num (w + (1 : Int))) - (1 : Int)))) : Nat) : Int) == (0 : Int)) == Bool.true))
           ((Go.Abs.Label.v10.p ()) ∧
           (k (Go.Abs.AVal.bool Bool.true) []))
           ((k (Go.Abs.AVal.bool Bool.false) [])))
          ((k (Go.Abs.AVal.bool Bool.false) [])))
         (br ((((Go.Abs.Label.stepErr w rs (Go.Abs.Label.listedI bits w) ((HMod.hMod num (w + (1 : Int))) - (1 : Int))) == (0 : Int)) == Bool.true))
          ((Go.Abs.Label.v33.p (w, (rs, ((Go.Abs.Label.listedI bits w), (((HMod.hMod num (w + (1 : Int))) - (1 : Int)), ((Go.Abs.Label.stepsL w rs (Go.Abs.Label.listedI bits w) ((HMod.hMod num (w + (1 : Int))) - (1 : Int))), ())))))) ∧
          br ((((Go.Abs.Label.chkS w rs (Go.Abs.Label.listedI bits w) ((HMod.hMod num (w + (1 : Int))) - (1 : Int)) (Go.Abs.Label.stepsL w rs (Go.Abs.Label.listedI bits w) ((HMod.hMod num (w + (1 : Int))) - (1 : Int)))) == (0 : Int)) == Bool.true))
           ((Go.Abs.Label.v34.p (w, (rs, ((Go.Abs.Label.listedI bits w), (((HMod.hMod num (w + (1 : Int))) - (1 : Int)), ((Go.Abs.Label.stepsL w rs (Go.Abs.Label.listedI bits w) ((HMod.hMod num (w + (1 : Int))) - (1 : Int))), ())))))) ∧
           br (((Go.Abs.Label.needS w rs (Go.Abs.Label.listedI bits w) ((HMod.hMod num (w + (1 : Int))) - (1 : Int)) (Go.Abs.Label.stepsL w rs (Go.Abs.Label.listedI bits w) ((HMod.hMod num (w + (1 : Int))) - (1 : Int)))) == Bool.true))
            ((Go.Abs.Label.v10.p ()) ∧
            (k (Go.Abs.AVal.bool Bool.true) []))
            ((k (Go.Abs.AVal.bool Bool.false) [])))
           ((k (Go.Abs.AVal.bool Bool.false) [])))
          ((k (Go.Abs.AVal.bool Bool.false) [])))))
       (br ((((Go.Abs.Label.chkS w rs (Go.Abs.Label.listedI bits w) ((HMod.hMod num (w + (1 : Int))) - (1 : Int)) s) == (0 : Int)) == Bool.true))
        ((k (Go.Abs.AVal.bool Bool.false) []))
        (br ((((Go.Abs.Label.stepErr w rs (Go.Abs.Label.listedI bits w) ((HMod.hMod num (w + (1 : Int))) - (1 : Int))) == (5 : Int)) == Bool.true))
         (br ((((((List.length (Go.Abs.Label.stepsL w rs (Go.Abs.Label.listedI bits w) ((HMod.hMod num (w + (1 : Int))) - (1 : Int)))) : Nat) : Int) == (0 : Int)) == Bool.true))
          ((Go.Abs.Label.v10.p ()) ∧
          (k (Go.Abs.AVal.bool Bool.true) []))
          ((k (Go.Abs.AVal.bool Bool.false) [])))
         ((k (Go.Abs.AVal.bool Bool.false) []))))))))
   ((Go.Abs.Label.v10.p ()) ∧
   (k (Go.Abs.AVal.bool Bool.true) []))
theorem eq6 (w : Int) (rs : List (List Int × Int)) (bits num : Int) (s : List Int) (k : AVal → List Cont → Prop) : awpF (envOf [(29, mkC [v29]), (9, mkC [v9]), (10, mkC [v10]), (30, mkC [v30]), (31, mkC [v31]), (32, mkC [v32]), (33, mkC [v33]), (34, mkC [v34])]) Tryz.prog kt 6 false Tryz.f6 (v6.args (w, rs, bits, num, s, ())) (v6.conts (w, rs, bits, num, s, ())) k = vc6 w rs bits num s k := by kernel_rfl
theorem tx6 : (Tryz.f6.body.map Code.textsOk).getD true = true := by kernel_rfl

def vc7 (w : Int) (rs : List (List Int × Int)) (a b : Int) (k : AVal → List Cont → Prop) : Prop :=
  (Go.Abs.Label.v29.p (w, (rs, ()))) ∧
  br ((Bool.not (Go.Abs.Label.fine w rs)))
   ((Go.Abs.Label.v10.p ()) ∧
   (k (Go.Abs.AVal.bool Bool.true) []))
   ((Go.Abs.Label.v30.p (w, (rs, (a, ())))) ∧
   (Go.Abs.Label.v31.p (w, (rs, ((Go.Abs.Label.listedI a w), ())))) ∧
   (Go.Abs.Label.v30.p (w, (rs, (b, ())))) ∧
   (Go.Abs.Label.v31.p (w, (rs, ((Go.Abs.Label.listedI b w), ())))) ∧
   (Go.Abs.Label.v35.p ((Go.Abs.Label.fromI w rs (Go.Abs.Label.bitsI (Go.Abs.Label.listedI a w))), (w, ()))) ∧
   (Go.Abs.Label.v31.p (w, (rs, ((Go.Abs.Label.listedI (Go.Abs.Label.fromI w rs (Go.Abs.Label.bitsI (Go.Abs.Label.listedI a w))) w), ())))) ∧
   (Go.Abs.Label.v35.p ((Go.Abs.bitsA Go.BinOp.and Go.IntKind.i64 (Go.Abs.Label.fromI w rs (Go.Abs.Label.bitsI (Go.Abs.Label.listedI a w))) (Go.Abs.Label.fromI w rs (Go.Abs.Label.bitsI (Go.Abs.Label.listedI b w)))), (w, ()))) ∧
   (Go.Abs.Label.v31.p (w, (rs, ((Go.Abs.Label.listedI (Go.Abs.bitsA Go.BinOp.and Go.IntKind.i64 (Go.Abs.Label.fromI w rs (Go.Abs.Label.bitsI (Go.Abs.Label.listedI a w))) (Go.Abs.Label.fromI w rs (Go.Abs.Label.bitsI (Go.Abs.Label.listedI b w)))) w), ())))) ∧
   (Go.Abs.Label.v25.p (w, (rs, ()))) ∧
   br ((((Go.Abs.Label.fromI w rs (Go.Abs.Label.bitsI (Go.Abs.Label.listedI (Go.Abs.Label.fromI w rs (Go.Abs.Label.bitsI (Go.Abs.Label.listedI a w))) w))) != (Go.Abs.Label.fromI w rs (Go.Abs.Label.bitsI (Go.Abs.Label.listedI a w)))) == Bool.false))
    (br (((Bool.not ((Go.Abs.Label.banI w rs (Go.Abs.Label.bitsI (Go.Abs.Label.listedI (Go.Abs.Label.fromI w rs (Go.Abs.Label.bitsI (Go.Abs.Label.listedI a w))) w))) == (Go.Abs.Label.banI w rs (Go.Abs.Label.bitsI (Go.Abs.Label.listedI a w))))) == Bool.false))
     (br ((((Go.Abs.Label.fromI w rs (Go.Abs.Label.bitsI (Go.Abs.Label.listedI (Go.Abs.bitsA Go.BinOp.and Go.IntKind.i64 (Go.Abs.Label.fromI w rs (Go.Abs.Label.bitsI (Go.Abs.Label.listedI a w))) (Go.Abs.Label.fromI w rs (Go.Abs.Label.bitsI (Go.Abs.Label.listedI b w)))) w))) != (Go.Abs.bitsA Go.BinOp.and Go.IntKind.i64 (Go.Abs.Label.fromI w rs (Go.Abs.Label.bitsI (Go.Abs.Label.listedI a w))) (Go.Abs.Label.fromI w rs (Go.Abs.Label.bitsI (Go.Abs.Label.listedI b w))))) == Bool.false))
      (br (((Go.Abs.Label.guildErr w rs) != (0 : Int)))
       ((k (Go.Abs.AVal.bool Bool.false) []))
       (Go.Abs.Loop (σ := (Int × (Int × (Int × (Int × ((List ((List Int) × Int)) × Unit)))))) (fun K5 x5 =>
         ((0 : Int) ≤ x5.2.2.2.1) ∧
         br ((decide (x5.2.2.1 < (Go.Abs.shlA Go.IntKind.i64 (1 : Int) x5.2.2.2.1))))
          ((Go.Abs.Label.v36.p (x5.2.2.2.1, (x5.2.2.2.2.1, (x5.2.2.1, ())))) ∧
          br ((Go.Abs.Label.clsI x5.2.2.2.1 x5.2.2.2.2.1 x5.2.2.1))
           ((Go.Abs.fitsK Go.IntKind.i64 (x5.2.1 + (1 : Int))) ∧
           (Go.Abs.fitsK Go.IntKind.i64 (x5.2.2.1 + (1 : Int))) ∧
           (K5 (x5.1, ((x5.2.1 + (1 : Int)), ((x5.2.2.1 + (1 : Int)), (x5.2.2.2.1, (x5.2.2.2.2.1, ())))))))
           ((Go.Abs.fitsK Go.IntKind.i64 (x5.2.2.1 + (1 : Int))) ∧
           (K5 (x5.1, (x5.2.1, ((x5.2.2.1 + (1 : Int)), (x5.2.2.2.1, (x5.2.2.2.2.1, ()))))))))
          (br (((x5.1 == x5.2.1) == Bool.true))
           ((Go.Abs.Label.v10.p ()) ∧
           (k (Go.Abs.AVal.bool Bool.true) []))
           ((k (Go.Abs.AVal.bool Bool.false) [])))) (((Go.Abs.Label.closL w rs), ((0 : Int), ((0 : Int), (w, (rs, ()))))))))
      ((k (Go.Abs.AVal.bool Bool.false) [])))
     ((k (Go.Abs.AVal.bool Bool.false) [])))
    ((k (Go.Abs.AVal.bool Bool.false) [])))
theorem eq7 (w : Int) (rs : List (List Int × Int)) (a b : Int) (k : AVal → List Cont → Prop) : awpF (envOf [(29, mkC [v29]), (10, mkC [v10]), (30, mkC [v30]), (31, mkC [v31]), (35, mkC [v35]), (25, mkC [v25]), (36, mkC [v36])]) Tryz.prog kt 7 false Tryz.f7 (v7.args (w, rs, a, b, ())) (v7.conts (w, rs, a, b, ())) k = vc7 w rs a b k := by kernel_rfl
theorem tx7 : (Tryz.f7.body.map Code.textsOk).getD true = true := by kernel_rfl

end Go.Abs.Label
end

section
/- The label's statements: which guilds are valid, what follows, what is banned. -/
open Go.Proofs
set_option maxRecDepth 100000
set_option linter.unusedVariables false
namespace Go.Abs.Label
theorem br_yes {b : Bool} {p q : Prop} (h : b = true) (hp : p) : br b p q := by subst h; exact hp
theorem br_no {b : Bool} {p q : Prop} (h : b = false) (hq : q) : br b p q := by subst h; exact hq
theorem eqbt (a : Int) : ((a == a) == true) = true := by simp
theorem eqBt (a : Bool) : ((a == a) == true) = true := by simp
theorem eqLt (a : List Int) : (eqL a a == true) = true := by simp [eqL]
theorem eqLLt (a : List (List Int)) : (eqLL a a == true) = true := by simp [eqLL]
theorem long_no {l : List Int} (h : longL l = false) : l.length ≤ 20 := by
  unfold longL at h
  have := of_decide_eq_false h
  omega
theorem fol_len (w : Int) (rs : List (List Int × Int)) (l : List Int) : (folL w rs l).length ≤ 10 := by
  unfold folL
  split
  · rename_i h
    have := fol_same h
    rw [← this]
    exact listI_len _
  · exact Nat.zero_le _

theorem k3 (hG : Good Tryz.prog (envOf [(8, mkC [v8]), (9, mkC [v9]), (10, mkC [v10]), (11, mkC [v11]), (12, mkC [v12]), (13, mkC [v13]), (14, mkC [v14]), (15, mkC [v15]), (16, mkC [v16]), (17, mkC [v17])])) : v3.Kept Tryz.prog 3 := by
  rintro ⟨w, rs, l, ⟨⟩⟩ hpre k hk
  change Int at w
  change List (List Int × Int) at rs
  change List Int at l
  refine aspec hmix hG Tryz.func3 tx3 (Eq.mpr (eq3 w rs l k) ?_)
  replace hk : k (rBo true) [] := hk
  unfold vc3
  refine ⟨trivial, ?_⟩
  rw [br_bf]
  refine ⟨fun hs => ⟨trivial, br_intro (fun _ => ⟨trivial, hk⟩) (fun h => ?_)⟩, fun _ => ⟨trivial, hk⟩⟩
  have hl := long_no h
  have hl2 : l.length ≤ 1000 := by omega
  have hf := fol_len w rs l
  have hf2 : (folL w rs l).length ≤ 1152921504606846976 := by omega
  exact ⟨⟨hs, hl2⟩, ⟨hs, hl2⟩, ⟨hs, hl2⟩, ⟨hs, hl2⟩, hs, hs, br_yes (eqbt _) ⟨⟨hf2, hf2⟩, br_yes (eqLt _) (br_yes (eqbt _) (br_yes (eqBt _) (br_yes (eqbt _) ⟨trivial, hk⟩)))⟩⟩
end Go.Abs.Label
end

section
/- The contracts put together (printed by a program). -/
open Go.Proofs
set_option maxRecDepth 100000
namespace Go.Abs.Label
theorem hc8 : HasCode Tryz.prog 8 := hasCode Tryz.func8 (by kernel_rfl) (by kernel_rfl)
theorem g8 : Keeps Tryz.prog 8 [v8] := keeps1 hc8 (k8 good_nil)
theorem hc9 : HasCode Tryz.prog 9 := hasCode Tryz.func9 (by kernel_rfl) (by kernel_rfl)
theorem g9 : Keeps Tryz.prog 9 [v9] := keeps1 hc9 (k9 good_nil)
theorem hc77 : HasCode Tryz.prog 77 := hasCode Tryz.func77 (by kernel_rfl) (by kernel_rfl)
theorem g77 : Keeps Tryz.prog 77 [v77] := keeps1 hc77 (k77 good_nil)
theorem hc37 : HasCode Tryz.prog 37 := hasCode Tryz.func37 (by kernel_rfl) (by kernel_rfl)
theorem g37 : Keeps Tryz.prog 37 [v37] := keeps1 hc37 (k37 (g77.add (g76 good_nil)))
theorem hc38 : HasCode Tryz.prog 38 := hasCode Tryz.func38 (by kernel_rfl) (by kernel_rfl)
theorem g38 : Keeps Tryz.prog 38 [v38] := keeps1 hc38 (k38 (g37.add (g77.add (g76 good_nil))))
theorem hc39 : HasCode Tryz.prog 39 := hasCode Tryz.func39 (by kernel_rfl) (by kernel_rfl)
theorem g39 : Keeps Tryz.prog 39 [v39] := keeps1 hc39 (k39 good_nil)
theorem hc82 : HasCode Tryz.prog 82 := hasCode Tryz.func82 (by kernel_rfl) (by kernel_rfl)
theorem g82 : Keeps Tryz.prog 82 [v82] := keeps1 hc82 (k82 good_nil)
theorem hc96 : HasCode Tryz.prog 96 := hasCode Tryz.func96 (by kernel_rfl) (by kernel_rfl)
theorem g96 : Keeps Tryz.prog 96 [v96] := keeps1 hc96 (k96 (g82.add good_nil))
theorem hc81 : HasCode Tryz.prog 81 := hasCode Tryz.func81 (by kernel_rfl) (by kernel_rfl)
theorem g81 : Keeps Tryz.prog 81 [v81] := keeps1 hc81 (k81 (g96.add good_nil))
theorem hc50 : HasCode Tryz.prog 50 := hasCode Tryz.func50 (by kernel_rfl) (by kernel_rfl)
theorem g50 : Keeps Tryz.prog 50 [v50] := keeps1 hc50 (k50 (g81.add good_nil))
theorem hc52 : HasCode Tryz.prog 52 := hasCode Tryz.func52 (by kernel_rfl) (by kernel_rfl)
theorem g52 : Keeps Tryz.prog 52 [v52] := keeps1 hc52 (k52 good_nil)
theorem hc83 : HasCode Tryz.prog 83 := hasCode Tryz.func83 (by kernel_rfl) (by kernel_rfl)
theorem g83a : Keeps Tryz.prog 83 [v83a] := keeps1 hc83 (k83a (g52.add good_nil))
theorem hc54 : HasCode Tryz.prog 54 := hasCode Tryz.func54 (by kernel_rfl) (by kernel_rfl)
theorem g54 : Keeps Tryz.prog 54 [v54] := keeps1 hc54 (k54 (g50.add good_nil))
theorem hc53 : HasCode Tryz.prog 53 := hasCode Tryz.func53 (by kernel_rfl) (by kernel_rfl)
theorem g53 : Keeps Tryz.prog 53 [v53] := keeps1 hc53 (k53 (g54.add good_nil))
theorem g83b : Keeps Tryz.prog 83 [v83b] := keeps1 hc83 (k83b (g53.add good_nil))
theorem hc55 : HasCode Tryz.prog 55 := hasCode Tryz.func55 (by kernel_rfl) (by kernel_rfl)
theorem g55 : Keeps Tryz.prog 55 [v55] := keeps1 hc55 (k55 (g50.add good_nil))
theorem g83c : Keeps Tryz.prog 83 [v83c] := keeps1 hc83 (k83c (g55.add good_nil))
theorem hc51 : HasCode Tryz.prog 51 := hasCode Tryz.func51 (by kernel_rfl) (by kernel_rfl)
theorem g51a_51b_51c : Keeps Tryz.prog 51 [v51a, v51b, v51c] := ⟨hc51.code, fun v' hm => by simp at hm; rcases hm with rfl | rfl | rfl; exact (k51a (g83a.add good_nil)); exact (k51b (g83b.add good_nil)); exact (k51c (g83c.add good_nil))⟩
theorem hc15 : HasCode Tryz.prog 15 := hasCode Tryz.func15 (by kernel_rfl) (by kernel_rfl)
theorem g15 : Keeps Tryz.prog 15 [v15] := keeps1 hc15 (k15 (g50.add (g51a_51b_51c.add good_nil)))
theorem hc57 : HasCode Tryz.prog 57 := hasCode Tryz.func57 (by kernel_rfl) (by kernel_rfl)
theorem g57 : Keeps Tryz.prog 57 [v57] := keeps1 hc57 (k57 good_nil)
theorem hc73 : HasCode Tryz.prog 73 := hasCode Tryz.func73 (by kernel_rfl) (by kernel_rfl)
theorem g73 : Keeps Tryz.prog 73 [v73] := keeps1 hc73 (k73 (g57.add good_nil))
theorem hc42 : HasCode Tryz.prog 42 := hasCode Tryz.func42 (by kernel_rfl) (by kernel_rfl)
theorem g42 : Keeps Tryz.prog 42 [v42] := keeps1 hc42 (k42 (g15.add (g54.add (g73.add good_nil))))
theorem hc78 : HasCode Tryz.prog 78 := hasCode Tryz.func78 (by kernel_rfl) (by kernel_rfl)
theorem g78 : Keeps Tryz.prog 78 [v78] := keeps1 hc78 (k78 good_nil)
theorem hc101 : HasCode Tryz.prog 101 := hasCode Tryz.func101 (by kernel_rfl) (by kernel_rfl)
theorem g101 : Keeps Tryz.prog 101 [v101] := keeps1 hc101 (k101 good_nil)
theorem hc87 : HasCode Tryz.prog 87 := hasCode Tryz.func87 (by kernel_rfl) (by kernel_rfl)
theorem g87 : Keeps Tryz.prog 87 [v87] := keeps1 hc87 (k87 (g101.add good_nil))
theorem hc66 : HasCode Tryz.prog 66 := hasCode Tryz.func66 (by kernel_rfl) (by kernel_rfl)
theorem g66 : Keeps Tryz.prog 66 [v66] := keeps1 hc66 (k66 (g87.add good_nil))
theorem hc79 : HasCode Tryz.prog 79 := hasCode Tryz.func79 (by kernel_rfl) (by kernel_rfl)
theorem g79 : Keeps Tryz.prog 79 [v79] := keeps1 hc79 (k79 (g73.add (g66.add good_nil)))
theorem hc59 : HasCode Tryz.prog 59 := hasCode Tryz.func59 (by kernel_rfl) (by kernel_rfl)
theorem g59 : Keeps Tryz.prog 59 [v59] := keeps1 hc59 (k59 good_nil)
theorem hc43 : HasCode Tryz.prog 43 := hasCode Tryz.func43 (by kernel_rfl) (by kernel_rfl)
theorem g43 : Keeps Tryz.prog 43 [v43] := keeps1 hc43 (k43 (g78.add (g57.add (g79.add (g59.add good_nil)))))
theorem hc44 : HasCode Tryz.prog 44 := hasCode Tryz.func44 (by kernel_rfl) (by kernel_rfl)
theorem g44 : Keeps Tryz.prog 44 [v44] := keeps1 hc44 (k44 good_nil)
theorem hc11 : HasCode Tryz.prog 11 := hasCode Tryz.func11 (by kernel_rfl) (by kernel_rfl)
theorem g11 : Keeps Tryz.prog 11 [v11] := keeps1 hc11 (k11 (g42.add (g43.add (g44.add good_nil))))
theorem hc80 : HasCode Tryz.prog 80 := hasCode Tryz.func80 (by kernel_rfl) (by kernel_rfl)
theorem g80 : Keeps Tryz.prog 80 [v80] := keeps1 hc80 (k80 (g73.add (g59.add good_nil)))
theorem g83d : Keeps Tryz.prog 83 [v83d] := keeps1 hc83 (k83d (g80.add good_nil))
theorem g51d : Keeps Tryz.prog 51 [v51d] := keeps1 hc51 (k51d (g83d.add good_nil))
theorem hc48 : HasCode Tryz.prog 48 := hasCode Tryz.func48 (by kernel_rfl) (by kernel_rfl)
theorem g48 : Keeps Tryz.prog 48 [v48] := keeps1 hc48 (k48 (g43.add (g79.add (g59.add (g80.add (g51d.add good_nil))))))
theorem hc13 : HasCode Tryz.prog 13 := hasCode Tryz.func13 (by kernel_rfl) (by kernel_rfl)
theorem g13 : Keeps Tryz.prog 13 [v13] := keeps1 hc13 (k13 (g42.add (g48.add good_nil)))
theorem hc33 : HasCode Tryz.prog 33 := hasCode Tryz.func33 (by kernel_rfl) (by kernel_rfl)
theorem g33 : Keeps Tryz.prog 33 [v33] := keeps1 hc33 (k33 (g42.add (g50.add (g73.add (g59.add (g57.add good_nil))))))
theorem hc91 : HasCode Tryz.prog 91 := hasCode Tryz.func91 (by kernel_rfl) (by kernel_rfl)
theorem g91 : Keeps Tryz.prog 91 [v91] := keeps1 hc91 (k91 (g73.add (g59.add good_nil)))
theorem g83e : Keeps Tryz.prog 83 [v83e] := keeps1 hc83 (k83e (g91.add good_nil))
theorem hc92 : HasCode Tryz.prog 92 := hasCode Tryz.func92 (by kernel_rfl) (by kernel_rfl)
theorem g92 : Keeps Tryz.prog 92 [v92] := keeps1 hc92 (k92 good_nil)
theorem hc93 : HasCode Tryz.prog 93 := hasCode Tryz.func93 (by kernel_rfl) (by kernel_rfl)
theorem g93 : Keeps Tryz.prog 93 [v93] := keeps1 hc93 (k93 good_nil)
theorem hc105 : HasCode Tryz.prog 105 := hasCode Tryz.func105 (by kernel_rfl) (by kernel_rfl)
theorem g105 : Keeps Tryz.prog 105 [v105] := keeps1 hc105 (k105 good_nil)
theorem hc104 : HasCode Tryz.prog 104 := hasCode Tryz.func104 (by kernel_rfl) (by kernel_rfl)
theorem g104 : Keeps Tryz.prog 104 [v104] := keeps1 hc104 (k104 good_nil)
theorem hc94 : HasCode Tryz.prog 94 := hasCode Tryz.func94 (by kernel_rfl) (by kernel_rfl)
theorem g94 : Keeps Tryz.prog 94 [v94] := keeps1 hc94 (k94 (g105.add (g104.add (g44.add (g33.add good_nil)))))
theorem hc75 : HasCode Tryz.prog 75 := hasCode Tryz.func75 (by kernel_rfl) (by kernel_rfl)
theorem g75 : Keeps Tryz.prog 75 [v75] := keeps1 hc75 (k75 (g78.add (g57.add (g59.add (g79.add (g83e.add (g73.add (g92.add (g93.add (g94.add good_nil))))))))))
theorem hc32 : HasCode Tryz.prog 32 := hasCode Tryz.func32 (by kernel_rfl) (by kernel_rfl)
theorem g32 : Keeps Tryz.prog 32 [v32] := keeps1 hc32 (k32 (g42.add (g50.add (g75.add good_nil))))
theorem hc58 : HasCode Tryz.prog 58 := hasCode Tryz.func58 (by kernel_rfl) (by kernel_rfl)
theorem g58 : Keeps Tryz.prog 58 [v58] := keeps1 hc58 (k58 (g43.add (g59.add good_nil)))
theorem hc67 : HasCode Tryz.prog 67 := hasCode Tryz.func67 (by kernel_rfl) (by kernel_rfl)
theorem g67 : Keeps Tryz.prog 67 [v67] := keeps1 hc67 (k67 good_nil)
theorem hc86 : HasCode Tryz.prog 86 := hasCode Tryz.func86 (by kernel_rfl) (by kernel_rfl)
theorem g86 : Keeps Tryz.prog 86 [v86] := keeps1 hc86 (k86 (g59.add good_nil))
theorem hc99 : HasCode Tryz.prog 99 := hasCode Tryz.func99 (by kernel_rfl) (by kernel_rfl)
theorem g99 : Keeps Tryz.prog 99 [v99] := keeps1 hc99 (k99 (g86.add good_nil))
theorem hc85 : HasCode Tryz.prog 85 := hasCode Tryz.func85 (by kernel_rfl) (by kernel_rfl)
theorem g85 : Keeps Tryz.prog 85 [v85] := keeps1 hc85 (k85 (g99.add good_nil))
theorem hc61 : HasCode Tryz.prog 61 := hasCode Tryz.func61 (by kernel_rfl) (by kernel_rfl)
theorem g61a : Keeps Tryz.prog 61 [v61a] := keeps1 hc61 (k61a (g58.add (g67.add (g66.add (g86.add (g85.add good_nil))))))
theorem hc102 : HasCode Tryz.prog 102 := hasCode Tryz.func102 (by kernel_rfl) (by kernel_rfl)
theorem g102 : Keeps Tryz.prog 102 [v102] := keeps1 hc102 (k102 good_nil)
theorem hc89 : HasCode Tryz.prog 89 := hasCode Tryz.func89 (by kernel_rfl) (by kernel_rfl)
theorem g89 : Keeps Tryz.prog 89 [v89] := keeps1 hc89 (k89 (g102.add good_nil))
theorem hc70 : HasCode Tryz.prog 70 := hasCode Tryz.func70 (by kernel_rfl) (by kernel_rfl)
theorem g70 : Keeps Tryz.prog 70 [v70] := keeps1 hc70 (k70 (g89.add good_nil))
theorem hc84 : HasCode Tryz.prog 84 := hasCode Tryz.func84 (by kernel_rfl) (by kernel_rfl)
theorem g84 : Keeps Tryz.prog 84 [v84] := keeps1 hc84 (k84 (g70.add good_nil))
theorem hc60 : HasCode Tryz.prog 60 := hasCode Tryz.func60 (by kernel_rfl) (by kernel_rfl)
theorem g60 : Keeps Tryz.prog 60 [v60] := keeps1 hc60 (k60 (g44.add (g84.add good_nil)))
theorem hc18 : HasCode Tryz.prog 18 := hasCode Tryz.func18 (by kernel_rfl) (by kernel_rfl)
theorem g18 : Keeps Tryz.prog 18 [v18] := keeps1 hc18 (k18 (g42.add (g50.add (g57.add (g58.add (g61a.add (g60.add good_nil)))))))
theorem hc63 : HasCode Tryz.prog 63 := hasCode Tryz.func63 (by kernel_rfl) (by kernel_rfl)
theorem g63 : Keeps Tryz.prog 63 [v63] := keeps1 hc63 (k63 (g43.add good_nil))
theorem g61b : Keeps Tryz.prog 61 [v61b] := keeps1 hc61 (k61b (g63.add (g67.add (g66.add (g86.add (g85.add good_nil))))))
theorem hc65 : HasCode Tryz.prog 65 := hasCode Tryz.func65 (by kernel_rfl) (by kernel_rfl)
theorem g65 : Keeps Tryz.prog 65 [v65] := keeps1 hc65 (k65 (g66.add good_nil))
theorem hc64 : HasCode Tryz.prog 64 := hasCode Tryz.func64 (by kernel_rfl) (by kernel_rfl)
theorem g64 : Keeps Tryz.prog 64 [v64] := keeps1 hc64 (k64 (g65.add good_nil))
theorem hc20 : HasCode Tryz.prog 20 := hasCode Tryz.func20 (by kernel_rfl) (by kernel_rfl)
theorem g20 : Keeps Tryz.prog 20 [v20] := keeps1 hc20 (k20 (g42.add (g43.add (g63.add (g61b.add (g64.add (g66.add (g60.add good_nil))))))))
theorem hc69 : HasCode Tryz.prog 69 := hasCode Tryz.func69 (by kernel_rfl) (by kernel_rfl)
theorem g69 : Keeps Tryz.prog 69 [v69] := keeps1 hc69 (k69 (g70.add good_nil))
theorem hc68 : HasCode Tryz.prog 68 := hasCode Tryz.func68 (by kernel_rfl) (by kernel_rfl)
theorem g68 : Keeps Tryz.prog 68 [v68] := keeps1 hc68 (k68 (g69.add good_nil))
theorem hc23 : HasCode Tryz.prog 23 := hasCode Tryz.func23 (by kernel_rfl) (by kernel_rfl)
theorem g23 : Keeps Tryz.prog 23 [v23] := keeps1 hc23 (k23 (g42.add (g48.add (g67.add (g44.add (g68.add good_nil))))))
theorem hc25 : HasCode Tryz.prog 25 := hasCode Tryz.func25 (by kernel_rfl) (by kernel_rfl)
theorem g25 : Keeps Tryz.prog 25 [v25] := keeps1 hc25 (k25 (g42.add (g67.add (g43.add (g48.add good_nil)))))
theorem hc72 : HasCode Tryz.prog 72 := hasCode Tryz.func72 (by kernel_rfl) (by kernel_rfl)
theorem g72 : Keeps Tryz.prog 72 [v72] := keeps1 hc72 (k72 (g90 good_nil))
theorem hc27 : HasCode Tryz.prog 27 := hasCode Tryz.func27 (by kernel_rfl) (by kernel_rfl)
theorem g27 : Keeps Tryz.prog 27 [v27] := keeps1 hc27 (k27 (g42.add (g50.add (g72.add (g73.add (g48.add (g43.add (g57.add (g59.add good_nil)))))))))
theorem hc17 : HasCode Tryz.prog 17 := hasCode Tryz.func17 (by kernel_rfl) (by kernel_rfl)
theorem g17 : Keeps Tryz.prog 17 [v17] := keeps1 hc17 (k17 good_nil)
theorem hc56 : HasCode Tryz.prog 56 := hasCode Tryz.func56 (by kernel_rfl) (by kernel_rfl)
theorem g56 : Keeps Tryz.prog 56 [v56] := keeps1 hc56 (k56 good_nil)
theorem hc16 : HasCode Tryz.prog 16 := hasCode Tryz.func16 (by kernel_rfl) (by kernel_rfl)
theorem g16 : Keeps Tryz.prog 16 [v16] := keeps1 hc16 (k16 (g56.add good_nil))
theorem hc45 : HasCode Tryz.prog 45 := hasCode Tryz.func45 (by kernel_rfl) (by kernel_rfl)
theorem g45 : Keeps Tryz.prog 45 [v45] := keeps1 hc45 (k45 (g16.add (g56.add good_nil)))
theorem hc47 : HasCode Tryz.prog 47 := hasCode Tryz.func47 (by kernel_rfl) (by kernel_rfl)
theorem g47 : Keeps Tryz.prog 47 [v47] := keeps1 hc47 (k47 good_nil)
theorem hc40 : HasCode Tryz.prog 40 := hasCode Tryz.func40 (by kernel_rfl) (by kernel_rfl)
theorem g40 : Keeps Tryz.prog 40 [v40] := keeps1 hc40 (k40 (g45.add (g47.add good_nil)))
theorem hc41 : HasCode Tryz.prog 41 := hasCode Tryz.func41 (by kernel_rfl) (by kernel_rfl)
theorem g41 : Keeps Tryz.prog 41 [v41] := keeps1 hc41 (k41 good_nil)
theorem hc22 : HasCode Tryz.prog 22 := hasCode Tryz.func22 (by kernel_rfl) (by kernel_rfl)
theorem g22 : Keeps Tryz.prog 22 [v22] := keeps1 hc22 (k22 (g17.add good_nil))
theorem hc10 : HasCode Tryz.prog 10 := hasCode Tryz.func10 (by kernel_rfl) (by kernel_rfl)
theorem g10 : Keeps Tryz.prog 10 [v10] := keeps1 hc10 (k10 (g37.add (g38.add (g39.add (g11.add (g13.add (g33.add (g32.add (g18.add (g20.add (g23.add (g25.add (g27.add (g17.add (g40.add (g41.add (g22.add good_nil)))))))))))))))))
theorem hc46 : HasCode Tryz.prog 46 := hasCode Tryz.func46 (by kernel_rfl) (by kernel_rfl)
theorem g46 : Keeps Tryz.prog 46 [v46] := keeps1 hc46 (k46 (g47.add good_nil))
theorem hc35 : HasCode Tryz.prog 35 := hasCode Tryz.func35 (by kernel_rfl) (by kernel_rfl)
theorem g35 : Keeps Tryz.prog 35 [v35] := keeps1 hc35 (k35 good_nil)
theorem hc12 : HasCode Tryz.prog 12 := hasCode Tryz.func12 (by kernel_rfl) (by kernel_rfl)
theorem g12 : Keeps Tryz.prog 12 [v12] := keeps1 hc12 (k12 (g45.add (g46.add (g47.add (g35.add good_nil)))))
theorem hc49 : HasCode Tryz.prog 49 := hasCode Tryz.func49 (by kernel_rfl) (by kernel_rfl)
theorem g49 : Keeps Tryz.prog 49 [v49] := keeps1 hc49 (k49 (g46.add (g47.add good_nil)))
theorem hc14 : HasCode Tryz.prog 14 := hasCode Tryz.func14 (by kernel_rfl) (by kernel_rfl)
theorem g14 : Keeps Tryz.prog 14 [v14] := keeps1 hc14 (k14 (g45.add (g47.add (g49.add good_nil))))
theorem hc3 : HasCode Tryz.prog 3 := hasCode Tryz.func3 (by kernel_rfl) (by kernel_rfl)
theorem g3 : Keeps Tryz.prog 3 [v3] := keeps1 hc3 (k3 (g8.add (g9.add (g10.add (g11.add (g12.add (g13.add (g14.add (g15.add (g16.add (g17.add good_nil)))))))))))
end Go.Abs.Label
end

