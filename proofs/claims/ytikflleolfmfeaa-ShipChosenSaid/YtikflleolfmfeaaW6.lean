/- Part 6 of the road to this seat's statements: lemmas about a small interpreter over the model's code, and about the functions that it is used on. No condition of its own. -/
import Derived.Test.YtikflleolfmfeaaProg
import Derived.Test.YtikflleolfmfeaaW5

section
/- Conditions and their equations, printed by a program. -/
open Go.Proofs
set_option maxRecDepth 100000
set_option linter.unusedVariables false
namespace Go.Abs.Ship
def vc80 (bs : List (Int × Int)) (st fl : Int) (box : Int) (l : List (Nat × (Int × Int) × Int)) (clk : Nat) (k : AVal → List Cont → Prop) : Prop :=
  (k (Go.Abs.AVal.fn (Go.Fn.func (94 : Nat)) [] ((Go.Abs.AVal.iptr ((Go.Abs.AVal.mref 0) :: [])) :: ((Go.Abs.AVal.iptr ((Go.Abs.AVal.iptr ((Go.Abs.AVal.imm (Go.Abs.Ty.pair (Go.Abs.Ty.int Go.IntKind.i64) (Go.Abs.Ty.int Go.IntKind.i64)) bs Bool.false) :: ((Go.Abs.AVal.int Go.IntKind.i64 st) :: ((Go.Abs.AVal.int Go.IntKind.i64 fl) :: [])))) :: [])) :: ((Go.Abs.AVal.iptr ((Go.Abs.AVal.int Go.IntKind.i64 box) :: [])) :: [])))) ((Go.Abs.Cont.mp Go.Abs.Ship.mkT l clk) :: []))
theorem eq80 (bs : List (Int × Int)) (st fl : Int) (box : Int) (l : List (Nat × (Int × Int) × Int)) (clk : Nat) (k : AVal → List Cont → Prop) : awpF (envOf []) Try.prog kt 80 false Try.f80 (v80.args (bs, st, fl, box, l, clk, ())) (v80.conts (bs, st, fl, box, l, clk, ())) k = vc80 bs st fl box l clk k := by kernel_rfl
theorem tx80 : (Try.f80.body.map Code.textsOk).getD true = true := by kernel_rfl

def vc82 (a b c d : Int) (k : AVal → List Cont → Prop) : Prop :=
  (k (Go.Abs.AVal.bool (decide (a < c))) [])
theorem eq82 (a b c d : Int) (k : AVal → List Cont → Prop) : awpF (envOf []) Try.prog kt 82 false Try.f82 (v82.args (a, b, c, d, ())) (v82.conts (a, b, c, d, ())) k = vc82 a b c d k := by kernel_rfl
theorem tx82 : (Try.f82.body.map Code.textsOk).getD true = true := by kernel_rfl

def vc81 (l : List (Int × Int)) (k : AVal → List Cont → Prop) : Prop :=
  ∃ h2 : (((0 : Int) ≤ (0 : Int)) ∧ ((Int.toNat (0 : Int)) < (List.length l))),
  (((0 : Int) ≤ (1 : Int)) ∧ ((1 : Int) ≤ (((List.length l) : Nat) : Int))) ∧
  Go.Abs.Loop (σ := ((List (Int × Int)) × (Int × (Int × (Int × (Int × (Int × (Int × Unit)))))))) (fun K3 x3 =>
    br ((decide (x3.2.2.1 < x3.2.1)))
     (∃ h5 : (((0 : Int) ≤ x3.2.2.1) ∧ ((Int.toNat x3.2.2.1) < (List.length x3.1))),
     (Go.Abs.Ship.v82.p ((x3.1[(Int.toNat x3.2.2.1)]'h5.2).1, ((x3.1[(Int.toNat x3.2.2.1)]'h5.2).2, (x3.2.2.2.2.2.1, (x3.2.2.2.2.2.2.1, ()))))) ∧
     br ((decide ((x3.1[(Int.toNat x3.2.2.1)]'h5.2).1 < x3.2.2.2.2.2.1)))
      ((Go.Abs.fitsK Go.IntKind.i64 (x3.2.2.1 + (1 : Int))) ∧
      (K3 (x3.1, (x3.2.1, ((x3.2.2.1 + (1 : Int)), (x3.2.2.2.1, (x3.2.2.2.2.1, ((x3.1[(Int.toNat x3.2.2.1)]'h5.2).1, ((x3.1[(Int.toNat x3.2.2.1)]'h5.2).2, ())))))))))
      ((Go.Abs.fitsK Go.IntKind.i64 (x3.2.2.1 + (1 : Int))) ∧
      (K3 (x3.1, (x3.2.1, ((x3.2.2.1 + (1 : Int)), (x3.2.2.2.1, (x3.2.2.2.2.1, (x3.2.2.2.2.2.1, (x3.2.2.2.2.2.2.1, ()))))))))))
     ((k (Go.Abs.AVal.agg ((Go.Abs.AVal.int Go.IntKind.i64 x3.2.2.2.2.2.1) :: ((Go.Abs.AVal.int Go.IntKind.i64 x3.2.2.2.2.2.2.1) :: []))) []))) (((List.drop (Int.toNat (1 : Int)) l), ((((List.length (List.drop (Int.toNat (1 : Int)) l)) : Nat) : Int), ((0 : Int), ((0 : Int), ((0 : Int), ((l[(Int.toNat (0 : Int))]'h2.2).1, ((l[(Int.toNat (0 : Int))]'h2.2).2, ()))))))))
theorem eq81 (l : List (Int × Int)) (k : AVal → List Cont → Prop) : awpF (envOf [(82, mkC [v82])]) Try.prog kt 81 false Try.f81 (v81.args (l, ())) (v81.conts (l, ())) k = vc81 l k := by kernel_rfl
theorem tx81 : (Try.f81.body.map Code.textsOk).getD true = true := by kernel_rfl

def vc64 (bs : List (Int × Int)) (k : AVal → List Cont → Prop) : Prop :=
  Go.Abs.Loop (σ := ((List (Int × Int)) × (Int × ((List Int) × Unit)))) (fun K2 x2 =>
    br ((decide (x2.2.1 < (((List.length x2.1) : Nat) : Int))))
     (Go.Abs.Loop (σ := ((List (Int × Int)) × (Int × (Int × (Int × ((List Int) × Unit)))))) (fun K4 x4 =>
       br ((decide (x4.2.2.2.1 < (((List.length x4.2.2.2.2.1) : Nat) : Int))))
        ((((0 : Int) ≤ x4.2.2.2.1) ∧ ((Int.toNat x4.2.2.2.1) < (List.length x4.2.2.2.2.1))) ∧
        ∃ h6 : ((Int.toNat x4.2.2.2.1) < (List.length x4.2.2.2.2.1)),
        ∃ h7 : (((0 : Int) ≤ x4.2.1) ∧ ((Int.toNat x4.2.1) < (List.length x4.1))),
        br (((decide ((x4.2.2.2.2.1[(Int.toNat x4.2.2.2.1)]'h6) ≥ (x4.1[(Int.toNat x4.2.1)]'h7.2).1)) == Bool.true))
         (br (((decide (x4.2.2.1 < (0 : Int))) == Bool.false))
          ((((0 : Int) ≤ x4.2.2.2.1) ∧ ((Int.toNat x4.2.2.2.1) < (List.length x4.2.2.2.2.1))) ∧
          ∃ h8 : ((Int.toNat x4.2.2.2.1) < (List.length x4.2.2.2.2.1)),
          (((0 : Int) ≤ x4.2.2.1) ∧ ((Int.toNat x4.2.2.1) < (List.length x4.2.2.2.2.1))) ∧
          ∃ h9 : ((Int.toNat x4.2.2.1) < (List.length x4.2.2.2.2.1)),
          br ((decide ((x4.2.2.2.2.1[(Int.toNat x4.2.2.2.1)]'h8) < (x4.2.2.2.2.1[(Int.toNat x4.2.2.1)]'h9))))
           ((Go.Abs.fitsK Go.IntKind.i64 (x4.2.2.2.1 + (1 : Int))) ∧
           (K4 (x4.1, (x4.2.1, (x4.2.2.2.1, ((x4.2.2.2.1 + (1 : Int)), (x4.2.2.2.2.1, ())))))))
           ((Go.Abs.fitsK Go.IntKind.i64 (x4.2.2.2.1 + (1 : Int))) ∧
           (K4 (x4.1, (x4.2.1, (x4.2.2.1, ((x4.2.2.2.1 + (1 : Int)), (x4.2.2.2.2.1, ()))))))))
          ((Go.Abs.fitsK Go.IntKind.i64 (x4.2.2.2.1 + (1 : Int))) ∧
          (K4 (x4.1, (x4.2.1, (x4.2.2.2.1, ((x4.2.2.2.1 + (1 : Int)), (x4.2.2.2.2.1, ()))))))))
         ((Go.Abs.fitsK Go.IntKind.i64 (x4.2.2.2.1 + (1 : Int))) ∧
         (K4 (x4.1, (x4.2.1, (x4.2.2.1, ((x4.2.2.2.1 + (1 : Int)), (x4.2.2.2.2.1, ()))))))))
        (br ((decide (x4.2.2.1 < (0 : Int))))
         (∃ h6 : (((0 : Int) ≤ x4.2.1) ∧ ((Int.toNat x4.2.1) < (List.length x4.1))),
         (((List.length x4.2.2.2.2.1) + (List.length ((x4.1[(Int.toNat x4.2.1)]'h6.2).1 :: ([] : List Int)))) ≤ Go.Abs.big) ∧
         (Go.Abs.fitsK Go.IntKind.i64 (x4.2.1 + (1 : Int))) ∧
         (K2 (x4.1, ((x4.2.1 + (1 : Int)), ((x4.2.2.2.2.1 ++ ((x4.1[(Int.toNat x4.2.1)]'h6.2).1 :: ([] : List Int))), ())))))
         (∃ h6 : (((0 : Int) ≤ x4.2.1) ∧ ((Int.toNat x4.2.1) < (List.length x4.1))),
         (((0 : Int) ≤ x4.2.2.1) ∧ ((Int.toNat x4.2.2.1) < (List.length x4.2.2.2.2.1))) ∧
         ∃ h7 : ((Int.toNat x4.2.2.1) < (List.length x4.2.2.2.2.1)),
         (Go.Abs.fitsK Go.IntKind.i64 (x4.2.1 + (1 : Int))) ∧
         (K2 (x4.1, ((x4.2.1 + (1 : Int)), ((List.set x4.2.2.2.2.1 (Int.toNat x4.2.2.1) (x4.1[(Int.toNat x4.2.1)]'h6.2).1), ()))))))) ((x2.1, (x2.2.1, ((-(1 : Int) : Int), ((0 : Int), (x2.2.2.1, ())))))))
     ((k (Go.Abs.AVal.int Go.IntKind.i64 (((List.length x2.2.2.1) : Nat) : Int)) []))) ((bs, ((0 : Int), (([] : List Int), ()))))
theorem eq64 (bs : List (Int × Int)) (k : AVal → List Cont → Prop) : awpF (envOf []) Try.prog kt 64 false Try.f64 (v64.args (bs, ())) (v64.conts (bs, ())) k = vc64 bs k := by kernel_rfl
theorem tx64 : (Try.f64.body.map Code.textsOk).getD true = true := by kernel_rfl

def vc23 (bs : List (Int × Int)) (st fl : Int) (k : AVal → List Cont → Prop) : Prop :=
  (Go.Abs.Ship.v61.p (bs, (st, (fl, ())))) ∧
  br ((Go.Abs.Ship.clIs bs st fl (6 : Int)))
   ((k (Go.Abs.AVal.tup ((Go.Abs.AVal.int Go.IntKind.i64 (0 : Int)) :: ((Go.Abs.AVal.int Go.IntKind.i64 (6 : Int)) :: []))) []))
   (br ((Go.Abs.Ship.clIs bs st fl (3 : Int)))
    ((k (Go.Abs.AVal.tup ((Go.Abs.AVal.int Go.IntKind.i64 (0 : Int)) :: ((Go.Abs.AVal.int Go.IntKind.i64 (3 : Int)) :: []))) []))
    ((Go.Abs.Ship.v63.p (bs, (st, (fl, ())))) ∧
    (Go.Abs.Ship.v62.p (bs, (st, (fl, ((Go.Abs.Ship.allOf bs), ()))))) ∧
    (k (Go.Abs.AVal.tup ((Go.Abs.AVal.int Go.IntKind.i64 (Go.Abs.Ship.fewN bs (Go.Abs.Ship.allOf bs))) :: ((Go.Abs.AVal.int Go.IntKind.i64 (0 : Int)) :: []))) [])))
theorem eq23 (bs : List (Int × Int)) (st fl : Int) (k : AVal → List Cont → Prop) : awpF (envOf [(61, mkC [v61]), (62, mkC [v62]), (63, mkC [v63])]) Try.prog kt 23 false Try.f23 (v23.args (bs, st, fl, ())) (v23.conts (bs, st, fl, ())) k = vc23 bs st fl k := by kernel_rfl
theorem tx23 : (Try.f23.body.map Code.textsOk).getD true = true := by kernel_rfl

def vc24 (bs : List (Int × Int)) (st fl : Int) (k : AVal → List Cont → Prop) : Prop :=
  (Go.Abs.Ship.v22.p (bs, (st, (fl, ())))) ∧
  br (((Go.Abs.Ship.checkLoad bs st fl) != (0 : Int)))
   ((Go.Abs.Ship.v22.p (bs, (st, (fl, ())))) ∧
   (k (Go.Abs.AVal.tup ((Go.Abs.AVal.int Go.IntKind.i64 (0 : Int)) :: ((Go.Abs.AVal.int Go.IntKind.i64 (Go.Abs.Ship.checkLoad bs st fl)) :: []))) []))
   ((Go.Abs.Ship.v64.p (bs, ())) ∧
   (k (Go.Abs.AVal.tup ((Go.Abs.AVal.int Go.IntKind.i64 (Go.Abs.Ship.fewestOf bs)) :: ((Go.Abs.AVal.int Go.IntKind.i64 (0 : Int)) :: []))) []))
theorem eq24 (bs : List (Int × Int)) (st fl : Int) (k : AVal → List Cont → Prop) : awpF (envOf [(22, mkC [v22]), (64, mkC [v64])]) Try.prog kt 24 false Try.f24 (v24.args (bs, st, fl, ())) (v24.conts (bs, st, fl, ())) k = vc24 bs st fl k := by kernel_rfl
theorem tx24 : (Try.f24.body.map Code.textsOk).getD true = true := by kernel_rfl

def vc65 (l : List Int) (n : Int) (k : AVal → List Cont → Prop) : Prop :=
  Go.Abs.Loop (σ := (Int × (Int × ((List Int) × (Int × (Int × Unit)))))) (fun K3 x3 =>
    br ((decide (x3.2.2.2.2.1 < x3.2.2.2.1)))
     (∃ h5 : (((0 : Int) ≤ x3.2.2.2.2.1) ∧ ((Int.toNat x3.2.2.2.2.1) < (List.length x3.2.2.1))),
     (Go.Abs.fitsK Go.IntKind.i64 (x3.1 - (1 : Int))) ∧
     (Go.Abs.Ship.v59.p (x3.2.1, ((x3.1 - (1 : Int)), (((x3.2.2.1[(Int.toNat x3.2.2.2.2.1)]'h5.2) :: ([] : List Int)), ())))) ∧
     br ((Bool.not (Bool.not (Go.Abs.Ship.anyOut x3.2.1 (x3.1 - (1 : Int)) ((x3.2.2.1[(Int.toNat x3.2.2.2.2.1)]'h5.2) :: ([] : List Int))))))
      ((k (Go.Abs.AVal.bool Bool.false) []))
      ((Go.Abs.fitsK Go.IntKind.i64 ((x3.2.2.1[(Int.toNat x3.2.2.2.2.1)]'h5.2) + (1 : Int))) ∧
      (Go.Abs.fitsK Go.IntKind.i64 (x3.2.2.2.2.1 + (1 : Int))) ∧
      (K3 (x3.1, (((x3.2.2.1[(Int.toNat x3.2.2.2.2.1)]'h5.2) + (1 : Int)), (x3.2.2.1, (x3.2.2.2.1, ((x3.2.2.2.2.1 + (1 : Int)), ()))))))))
     ((k (Go.Abs.AVal.bool Bool.true) []))) ((n, ((0 : Int), (l, ((((List.length l) : Nat) : Int), ((0 : Int), ()))))))
theorem eq65 (l : List Int) (n : Int) (k : AVal → List Cont → Prop) : awpF (envOf [(59, mkC [v59])]) Try.prog kt 65 false Try.f65 (v65.args (l, n, ())) (v65.conts (l, n, ())) k = vc65 l n k := by kernel_rfl
theorem tx65 : (Try.f65.body.map Code.textsOk).getD true = true := by kernel_rfl

def vc25 (bs : List (Int × Int)) (st fl : Int) (s : List Int) (k : AVal → List Cont → Prop) : Prop :=
  (Go.Abs.Ship.v61.p (bs, (st, (fl, ())))) ∧
  br ((Go.Abs.Ship.clIs bs st fl (6 : Int)))
   ((k (Go.Abs.AVal.tup ((Go.Abs.AVal.int Go.IntKind.i64 (0 : Int)) :: ((Go.Abs.AVal.int Go.IntKind.i64 (6 : Int)) :: []))) []))
   (br ((Go.Abs.Ship.clIs bs st fl (3 : Int)))
    ((k (Go.Abs.AVal.tup ((Go.Abs.AVal.int Go.IntKind.i64 (0 : Int)) :: ((Go.Abs.AVal.int Go.IntKind.i64 (3 : Int)) :: []))) []))
    ((Go.Abs.Ship.v65.p (s, ((((List.length bs) : Nat) : Int), ()))) ∧
    br ((Bool.not (Go.Abs.Ship.isList s (((List.length bs) : Nat) : Int))))
     ((k (Go.Abs.AVal.tup ((Go.Abs.AVal.int Go.IntKind.i64 (0 : Int)) :: ((Go.Abs.AVal.int Go.IntKind.i64 (2 : Int)) :: []))) []))
     (Go.Abs.Loop (σ := ((List Int) × ((List (Int × Int)) × (Int × (Int × (Int × ((List Int) × (Int × (Int × Unit))))))))) (fun K5 x5 =>
       br ((decide (x5.2.2.2.2.2.2.2.1 < x5.2.2.2.2.2.2.1)))
        (∃ h7 : (((0 : Int) ≤ x5.2.2.2.2.2.2.2.1) ∧ ((Int.toNat x5.2.2.2.2.2.2.2.1) < (List.length x5.2.2.2.2.2.1))),
        ∃ h8 : (((0 : Int) ≤ (x5.2.2.2.2.2.1[(Int.toNat x5.2.2.2.2.2.2.2.1)]'h7.2)) ∧ ((Int.toNat (x5.2.2.2.2.2.1[(Int.toNat x5.2.2.2.2.2.2.2.1)]'h7.2)) < (List.length x5.2.1))),
        br ((decide ((x5.2.1[(Int.toNat (x5.2.2.2.2.2.1[(Int.toNat x5.2.2.2.2.2.2.2.1)]'h7.2))]'h8.2).1 ≤ x5.2.2.2.2.1)))
         ((k (Go.Abs.AVal.tup ((Go.Abs.AVal.int Go.IntKind.i64 (0 : Int)) :: ((Go.Abs.AVal.int Go.IntKind.i64 (16 : Int)) :: []))) []))
         (∃ h9 : (((0 : Int) ≤ (x5.2.2.2.2.2.1[(Int.toNat x5.2.2.2.2.2.2.2.1)]'h7.2)) ∧ ((Int.toNat (x5.2.2.2.2.2.1[(Int.toNat x5.2.2.2.2.2.2.2.1)]'h7.2)) < (List.length x5.2.1))),
         (Go.Abs.fitsK Go.IntKind.i64 (x5.2.2.2.2.2.2.2.1 + (1 : Int))) ∧
         (K5 (x5.1, (x5.2.1, (x5.2.2.1, (x5.2.2.2.1, ((x5.2.1[(Int.toNat (x5.2.2.2.2.2.1[(Int.toNat x5.2.2.2.2.2.2.2.1)]'h7.2))]'h9.2).1, (x5.2.2.2.2.2.1, (x5.2.2.2.2.2.2.1, ((x5.2.2.2.2.2.2.2.1 + (1 : Int)), ())))))))))))
        ((k (Go.Abs.AVal.tup ((Go.Abs.AVal.int Go.IntKind.i64 (((List.length x5.1) : Nat) : Int)) :: ((Go.Abs.AVal.int Go.IntKind.i64 (0 : Int)) :: []))) []))) ((s, (bs, (st, (fl, ((0 : Int), (s, ((((List.length s) : Nat) : Int), ((0 : Int), ()))))))))))))
theorem eq25 (bs : List (Int × Int)) (st fl : Int) (s : List Int) (k : AVal → List Cont → Prop) : awpF (envOf [(61, mkC [v61]), (65, mkC [v65])]) Try.prog kt 25 false Try.f25 (v25.args (bs, st, fl, s, ())) (v25.conts (bs, st, fl, s, ())) k = vc25 bs st fl s k := by kernel_rfl
theorem tx25 : (Try.f25.body.map Code.textsOk).getD true = true := by kernel_rfl

def vc26 (bs : List (Int × Int)) (st fl : Int) (s : List Int) (k : AVal → List Cont → Prop) : Prop :=
  (Go.Abs.Ship.v22.p (bs, (st, (fl, ())))) ∧
  br (((Go.Abs.Ship.checkLoad bs st fl) != (0 : Int)))
   ((Go.Abs.Ship.v22.p (bs, (st, (fl, ())))) ∧
   (k (Go.Abs.AVal.tup ((Go.Abs.AVal.int Go.IntKind.i64 (0 : Int)) :: ((Go.Abs.AVal.int Go.IntKind.i64 (Go.Abs.Ship.checkLoad bs st fl)) :: []))) []))
   ((Go.Abs.Ship.v47.p (s, ((((List.length bs) : Nat) : Int), ()))) ∧
   br ((Bool.not (Go.Abs.Ship.isList s (((List.length bs) : Nat) : Int))))
    ((k (Go.Abs.AVal.tup ((Go.Abs.AVal.int Go.IntKind.i64 (0 : Int)) :: ((Go.Abs.AVal.int Go.IntKind.i64 (2 : Int)) :: []))) []))
    (Go.Abs.Loop (σ := ((List Int) × (Int × ((List (Int × Int)) × (Int × (Int × Unit)))))) (fun K5 x5 =>
      br ((decide (x5.2.1 < (((List.length x5.1) : Nat) : Int))))
       (∃ h7 : (((0 : Int) ≤ x5.2.1) ∧ ((Int.toNat x5.2.1) < (List.length x5.1))),
       ∃ h8 : (((0 : Int) ≤ (x5.1[(Int.toNat x5.2.1)]'h7.2)) ∧ ((Int.toNat (x5.1[(Int.toNat x5.2.1)]'h7.2)) < (List.length x5.2.2.1))),
       (Go.Abs.fitsK Go.IntKind.i64 (x5.2.1 - (1 : Int))) ∧
       ∃ h9 : (((0 : Int) ≤ (x5.2.1 - (1 : Int))) ∧ ((Int.toNat (x5.2.1 - (1 : Int))) < (List.length x5.1))),
       ∃ h10 : (((0 : Int) ≤ (x5.1[(Int.toNat (x5.2.1 - (1 : Int)))]'h9.2)) ∧ ((Int.toNat (x5.1[(Int.toNat (x5.2.1 - (1 : Int)))]'h9.2)) < (List.length x5.2.2.1))),
       br ((decide ((x5.2.2.1[(Int.toNat (x5.1[(Int.toNat x5.2.1)]'h7.2))]'h8.2).1 ≤ (x5.2.2.1[(Int.toNat (x5.1[(Int.toNat (x5.2.1 - (1 : Int)))]'h9.2))]'h10.2).1)))
        ((k (Go.Abs.AVal.tup ((Go.Abs.AVal.int Go.IntKind.i64 (0 : Int)) :: ((Go.Abs.AVal.int Go.IntKind.i64 (16 : Int)) :: []))) []))
        ((Go.Abs.fitsK Go.IntKind.i64 (x5.2.1 + (1 : Int))) ∧
        (K5 (x5.1, ((x5.2.1 + (1 : Int)), (x5.2.2.1, (x5.2.2.2.1, (x5.2.2.2.2.1, ()))))))))
       ((k (Go.Abs.AVal.tup ((Go.Abs.AVal.int Go.IntKind.i64 (((List.length x5.1) : Nat) : Int)) :: ((Go.Abs.AVal.int Go.IntKind.i64 (0 : Int)) :: []))) []))) ((s, ((1 : Int), (bs, (st, (fl, ()))))))))
theorem eq26 (bs : List (Int × Int)) (st fl : Int) (s : List Int) (k : AVal → List Cont → Prop) : awpF (envOf [(22, mkC [v22]), (47, mkC [v47])]) Try.prog kt 26 false Try.f26 (v26.args (bs, st, fl, s, ())) (v26.conts (bs, st, fl, s, ())) k = vc26 bs st fl s k := by kernel_rfl
theorem tx26 : (Try.f26.body.map Code.textsOk).getD true = true := by kernel_rfl

def vc66 (bs : List (Int × Int)) (st fl : Int) (k : AVal → List Cont → Prop) : Prop :=
  (((0 : Int) ≤ (((List.length bs) : Nat) : Int)) ∧ (((((List.length bs) : Nat) : Int) = (((List.length bs) : Nat) : Int)) ∧ ((((List.length bs) : Nat) : Int) ≤ ((Go.Abs.big : Nat) : Int)))) ∧
  (Go.Abs.fitsK Go.IntKind.i64 ((((List.length bs) : Nat) : Int) - (1 : Int))) ∧
  Go.Abs.Loop (σ := ((List (Int × Int)) × (Int × (Int × (Int × (Int × (Int × ((List Int) × Unit)))))))) (fun K4 x4 =>
    br ((decide (x4.2.2.2.2.2.1 ≥ (0 : Int))))
     ((((0 : Int) ≤ x4.2.2.2.2.2.1) ∧ ((Int.toNat x4.2.2.2.2.2.1) < (List.length x4.2.2.2.2.2.2.1))) ∧
     ∃ h6 : ((Int.toNat x4.2.2.2.2.2.1) < (List.length x4.2.2.2.2.2.2.1)),
     (Go.Abs.fitsK Go.IntKind.i64 (x4.2.2.2.2.2.1 + (1 : Int))) ∧
     Go.Abs.Loop (σ := ((List (Int × Int)) × (Int × (Int × (Int × (Int × (Int × (Int × ((List Int) × Unit))))))))) (fun K7 x7 =>
       br ((decide (x7.2.2.2.2.2.2.1 < x7.2.2.2.1)))
        ((Go.Abs.Ship.v83.p (x7.1, (x7.2.1, (x7.2.2.1, (x7.2.2.2.2.2.2.1, (x7.2.2.2.2.2.1, ())))))) ∧
        br ((Bool.not (Go.Abs.Ship.liesOn x7.1 x7.2.2.2.2.2.2.1 x7.2.2.2.2.2.1)))
         ((((0 : Int) ≤ x7.2.2.2.2.2.1) ∧ ((Int.toNat x7.2.2.2.2.2.1) < (List.length x7.2.2.2.2.2.2.2.1))) ∧
         ∃ h9 : ((Int.toNat x7.2.2.2.2.2.1) < (List.length x7.2.2.2.2.2.2.2.1)),
         (((0 : Int) ≤ x7.2.2.2.2.2.2.1) ∧ ((Int.toNat x7.2.2.2.2.2.2.1) < (List.length x7.2.2.2.2.2.2.2.1))) ∧
         ∃ h10 : ((Int.toNat x7.2.2.2.2.2.2.1) < (List.length x7.2.2.2.2.2.2.2.1)),
         (Go.Abs.fitsK Go.IntKind.i64 ((1 : Int) + (x7.2.2.2.2.2.2.2.1[(Int.toNat x7.2.2.2.2.2.2.1)]'h10))) ∧
         (((0 : Int) ≤ x7.2.2.2.2.2.1) ∧ ((Int.toNat x7.2.2.2.2.2.1) < (List.length x7.2.2.2.2.2.2.2.1))) ∧
         ∃ h11 : ((Int.toNat x7.2.2.2.2.2.1) < (List.length x7.2.2.2.2.2.2.2.1)),
         (Go.Abs.fitsK Go.IntKind.i64 (x7.2.2.2.2.2.2.1 + (1 : Int))) ∧
         (K7 (x7.1, (x7.2.1, (x7.2.2.1, (x7.2.2.2.1, (x7.2.2.2.2.1, (x7.2.2.2.2.2.1, ((x7.2.2.2.2.2.2.1 + (1 : Int)), ((List.set x7.2.2.2.2.2.2.2.1 (Int.toNat x7.2.2.2.2.2.1) (ite (((1 : Int) + (x7.2.2.2.2.2.2.2.1[(Int.toNat x7.2.2.2.2.2.2.1)]'h10)) > (x7.2.2.2.2.2.2.2.1[(Int.toNat x7.2.2.2.2.2.1)]'h9)) ((1 : Int) + (x7.2.2.2.2.2.2.2.1[(Int.toNat x7.2.2.2.2.2.2.1)]'h10)) (x7.2.2.2.2.2.2.2.1[(Int.toNat x7.2.2.2.2.2.1)]'h9))), ()))))))))))
         ((Go.Abs.fitsK Go.IntKind.i64 (x7.2.2.2.2.2.2.1 + (1 : Int))) ∧
         (K7 (x7.1, (x7.2.1, (x7.2.2.1, (x7.2.2.2.1, (x7.2.2.2.2.1, (x7.2.2.2.2.2.1, ((x7.2.2.2.2.2.2.1 + (1 : Int)), (x7.2.2.2.2.2.2.2.1, ())))))))))))
        ((((0 : Int) ≤ x7.2.2.2.2.2.1) ∧ ((Int.toNat x7.2.2.2.2.2.1) < (List.length x7.2.2.2.2.2.2.2.1))) ∧
        ∃ h9 : ((Int.toNat x7.2.2.2.2.2.1) < (List.length x7.2.2.2.2.2.2.2.1)),
        (Go.Abs.fitsK Go.IntKind.i64 (x7.2.2.2.2.2.1 - (1 : Int))) ∧
        (K4 (x7.1, (x7.2.1, (x7.2.2.1, (x7.2.2.2.1, ((ite ((x7.2.2.2.2.2.2.2.1[(Int.toNat x7.2.2.2.2.2.1)]'h9) > x7.2.2.2.2.1) (x7.2.2.2.2.2.2.2.1[(Int.toNat x7.2.2.2.2.2.1)]'h9) x7.2.2.2.2.1), ((x7.2.2.2.2.2.1 - (1 : Int)), (x7.2.2.2.2.2.2.2.1, ())))))))))) ((x4.1, (x4.2.1, (x4.2.2.1, (x4.2.2.2.1, (x4.2.2.2.2.1, (x4.2.2.2.2.2.1, ((x4.2.2.2.2.2.1 + (1 : Int)), ((List.set x4.2.2.2.2.2.2.1 (Int.toNat x4.2.2.2.2.2.1) (1 : Int)), ()))))))))))
     (Go.Abs.Loop (σ := ((List (Int × Int)) × (Int × (Int × (Int × (Int × (Int × ((List Int) × ((List Int) × Unit))))))))) (fun K6 x6 =>
       br ((decide (x6.2.2.2.2.2.1 < x6.2.2.2.2.1)))
        ((((0 : Int) ≤ x6.2.2.2.2.2.1) ∧ ((Int.toNat x6.2.2.2.2.2.1) < (List.length x6.2.2.2.2.2.2.1))) ∧
        ∃ h8 : ((Int.toNat x6.2.2.2.2.2.1) < (List.length x6.2.2.2.2.2.2.1)),
        br ((((x6.2.2.2.2.2.2.1[(Int.toNat x6.2.2.2.2.2.1)]'h8) == x6.2.2.2.1) == Bool.true))
         (br (((decide (x6.2.2.2.1 > (0 : Int))) == Bool.true))
          (br ((((((List.length x6.2.2.2.2.2.2.2.1) : Nat) : Int) == (0 : Int)) == Bool.false))
           ((Go.Abs.fitsK Go.IntKind.i64 ((((List.length x6.2.2.2.2.2.2.2.1) : Nat) : Int) - (1 : Int))) ∧
           (((0 : Int) ≤ ((((List.length x6.2.2.2.2.2.2.2.1) : Nat) : Int) - (1 : Int))) ∧ ((Int.toNat ((((List.length x6.2.2.2.2.2.2.2.1) : Nat) : Int) - (1 : Int))) < (List.length x6.2.2.2.2.2.2.2.1))) ∧
           ∃ h9 : ((Int.toNat ((((List.length x6.2.2.2.2.2.2.2.1) : Nat) : Int) - (1 : Int))) < (List.length x6.2.2.2.2.2.2.2.1)),
           (Go.Abs.Ship.v83.p (x6.1, (x6.2.1, (x6.2.2.1, (x6.2.2.2.2.2.1, ((x6.2.2.2.2.2.2.2.1[(Int.toNat ((((List.length x6.2.2.2.2.2.2.2.1) : Nat) : Int) - (1 : Int)))]'h9), ())))))) ∧
           br ((Bool.not (Go.Abs.Ship.liesOn x6.1 x6.2.2.2.2.2.1 (x6.2.2.2.2.2.2.2.1[(Int.toNat ((((List.length x6.2.2.2.2.2.2.2.1) : Nat) : Int) - (1 : Int)))]'h9))))
            ((((0 : Int) ≤ (((List.length x6.2.2.2.2.2.2.2.1) : Nat) : Int)) ∧ (((((List.length x6.2.2.2.2.2.2.2.1) : Nat) : Int) ≤ (((List.length x6.2.2.2.2.2.2.2.1) : Nat) : Int)) ∧ ((((List.length x6.2.2.2.2.2.2.2.1) : Nat) : Int) = (((List.length x6.2.2.2.2.2.2.2.1) : Nat) : Int)))) ∧
            (((Int.toNat (((List.length x6.2.2.2.2.2.2.2.1) : Nat) : Int)) + (List.length (x6.2.2.2.2.2.1 :: ([] : List Int)))) ≤ Go.Abs.big) ∧
            ((0 : Nat) < (List.length (x6.2.2.2.2.2.1 :: ([] : List Int)))) ∧
            (Go.Abs.fitsK Go.IntKind.i64 (x6.2.2.2.1 - (1 : Int))) ∧
            (Go.Abs.fitsK Go.IntKind.i64 (x6.2.2.2.2.2.1 + (1 : Int))) ∧
            (K6 (x6.1, (x6.2.1, (x6.2.2.1, ((x6.2.2.2.1 - (1 : Int)), (x6.2.2.2.2.1, ((x6.2.2.2.2.2.1 + (1 : Int)), (x6.2.2.2.2.2.2.1, (((List.take (Int.toNat (((List.length x6.2.2.2.2.2.2.2.1) : Nat) : Int)) (List.drop (0 : Nat) x6.2.2.2.2.2.2.2.1)) ++ (x6.2.2.2.2.2.1 :: ([] : List Int))), ()))))))))))
            ((Go.Abs.fitsK Go.IntKind.i64 (x6.2.2.2.2.2.1 + (1 : Int))) ∧
            (K6 (x6.1, (x6.2.1, (x6.2.2.1, (x6.2.2.2.1, (x6.2.2.2.2.1, ((x6.2.2.2.2.2.1 + (1 : Int)), (x6.2.2.2.2.2.2.1, (x6.2.2.2.2.2.2.2.1, ())))))))))))
           ((((0 : Int) ≤ (((List.length x6.2.2.2.2.2.2.2.1) : Nat) : Int)) ∧ (((((List.length x6.2.2.2.2.2.2.2.1) : Nat) : Int) ≤ (((List.length x6.2.2.2.2.2.2.2.1) : Nat) : Int)) ∧ ((((List.length x6.2.2.2.2.2.2.2.1) : Nat) : Int) = (((List.length x6.2.2.2.2.2.2.2.1) : Nat) : Int)))) ∧
           (((Int.toNat (((List.length x6.2.2.2.2.2.2.2.1) : Nat) : Int)) + (List.length (x6.2.2.2.2.2.1 :: ([] : List Int)))) ≤ Go.Abs.big) ∧
           ((0 : Nat) < (List.length (x6.2.2.2.2.2.1 :: ([] : List Int)))) ∧
           (Go.Abs.fitsK Go.IntKind.i64 (x6.2.2.2.1 - (1 : Int))) ∧
           (Go.Abs.fitsK Go.IntKind.i64 (x6.2.2.2.2.2.1 + (1 : Int))) ∧
           (K6 (x6.1, (x6.2.1, (x6.2.2.1, ((x6.2.2.2.1 - (1 : Int)), (x6.2.2.2.2.1, ((x6.2.2.2.2.2.1 + (1 : Int)), (x6.2.2.2.2.2.2.1, (((List.take (Int.toNat (((List.length x6.2.2.2.2.2.2.2.1) : Nat) : Int)) (List.drop (0 : Nat) x6.2.2.2.2.2.2.2.1)) ++ (x6.2.2.2.2.2.1 :: ([] : List Int))), ())))))))))))
          ((Go.Abs.fitsK Go.IntKind.i64 (x6.2.2.2.2.2.1 + (1 : Int))) ∧
          (K6 (x6.1, (x6.2.1, (x6.2.2.1, (x6.2.2.2.1, (x6.2.2.2.2.1, ((x6.2.2.2.2.2.1 + (1 : Int)), (x6.2.2.2.2.2.2.1, (x6.2.2.2.2.2.2.2.1, ())))))))))))
         ((Go.Abs.fitsK Go.IntKind.i64 (x6.2.2.2.2.2.1 + (1 : Int))) ∧
         (K6 (x6.1, (x6.2.1, (x6.2.2.1, (x6.2.2.2.1, (x6.2.2.2.2.1, ((x6.2.2.2.2.2.1 + (1 : Int)), (x6.2.2.2.2.2.2.1, (x6.2.2.2.2.2.2.2.1, ())))))))))))
        ((k (Go.Abs.AVal.reg 0 Bool.false) ((Go.Abs.Cont.sl (Go.Abs.Ty.int Go.IntKind.i64) x6.2.2.2.2.2.2.2.1) :: [])))) ((x4.1, (x4.2.1, (x4.2.2.1, (x4.2.2.2.2.1, (x4.2.2.2.1, ((0 : Int), (x4.2.2.2.2.2.2.1, (([] : List Int), ()))))))))))) ((bs, (st, (fl, ((((List.length bs) : Nat) : Int), ((0 : Int), (((((List.length bs) : Nat) : Int) - (1 : Int)), ((List.replicate (Int.toNat (((List.length bs) : Nat) : Int)) (Int.ofNat 0)), ()))))))))
theorem eq66 (bs : List (Int × Int)) (st fl : Int) (k : AVal → List Cont → Prop) : awpF (envOf [(83, mkC [v83])]) Try.prog kt 66 false Try.f66 (v66.args (bs, st, fl, ())) (v66.conts (bs, st, fl, ())) k = vc66 bs st fl k := by kernel_rfl
theorem tx66 : (Try.f66.body.map Code.textsOk).getD true = true := by kernel_rfl

def vc84 (bs : List (Int × Int)) (bits : Int) (k : AVal → List Cont → Prop) : Prop :=
  Go.Abs.Loop (σ := ((List (Int × Int)) × (Int × (Int × (Int × Unit))))) (fun K3 x3 =>
    br ((decide (x3.2.2.2.1 < (((List.length x3.1) : Nat) : Int))))
     (((0 : Int) ≤ x3.2.2.2.1) ∧
     br (((Go.Abs.bitsA Go.BinOp.and Go.IntKind.i64 (Go.Abs.shrA Go.IntKind.i64 x3.2.1 x3.2.2.2.1) (1 : Int)) == (1 : Int)))
      (∃ h5 : (((0 : Int) ≤ x3.2.2.2.1) ∧ ((Int.toNat x3.2.2.2.1) < (List.length x3.1))),
      br ((decide ((x3.1[(Int.toNat x3.2.2.2.1)]'h5.2).1 ≤ x3.2.2.1)))
       ((k (Go.Abs.AVal.bool Bool.false) []))
       (∃ h6 : (((0 : Int) ≤ x3.2.2.2.1) ∧ ((Int.toNat x3.2.2.2.1) < (List.length x3.1))),
       (Go.Abs.fitsK Go.IntKind.i64 (x3.2.2.2.1 + (1 : Int))) ∧
       (K3 (x3.1, (x3.2.1, ((x3.1[(Int.toNat x3.2.2.2.1)]'h6.2).1, ((x3.2.2.2.1 + (1 : Int)), ())))))))
      ((Go.Abs.fitsK Go.IntKind.i64 (x3.2.2.2.1 + (1 : Int))) ∧
      (K3 (x3.1, (x3.2.1, (x3.2.2.1, ((x3.2.2.2.1 + (1 : Int)), ())))))))
     ((k (Go.Abs.AVal.bool Bool.true) []))) ((bs, (bits, ((0 : Int), ((0 : Int), ())))))
theorem eq84 (bs : List (Int × Int)) (bits : Int) (k : AVal → List Cont → Prop) : awpF (envOf []) Try.prog kt 84 false Try.f84 (v84.args (bs, bits, ())) (v84.conts (bs, bits, ())) k = vc84 bs bits k := by kernel_rfl
theorem tx84 : (Try.f84.body.map Code.textsOk).getD true = true := by kernel_rfl

def vc67 (bs : List (Int × Int)) (k : AVal → List Cont → Prop) : Prop :=
  Go.Abs.Loop (σ := ((List (Int × Int)) × (Int × ((List Int) × Unit)))) (fun K2 x2 =>
    ((0 : Int) ≤ (((List.length x2.1) : Nat) : Int)) ∧
    br ((decide (x2.2.1 < (Go.Abs.shlA Go.IntKind.i64 (1 : Int) (((List.length x2.1) : Nat) : Int)))))
     ((Go.Abs.Ship.v44.p (x2.2.1, ((((List.length x2.1) : Nat) : Int), ()))) ∧
     (Go.Abs.Ship.v84.p (x2.1, (x2.2.1, ()))) ∧
     br (((Go.Abs.Ship.riseBits x2.1 (Int.toNat x2.2.1)) == Bool.true))
      (br (((decide ((((List.length (Go.Abs.Ship.listed (Int.toNat x2.2.1) (Int.toNat (((List.length x2.1) : Nat) : Int)))) : Nat) : Int) > (((List.length x2.2.2.1) : Nat) : Int))) == Bool.false))
       (br ((((((List.length (Go.Abs.Ship.listed (Int.toNat x2.2.1) (Int.toNat (((List.length x2.1) : Nat) : Int)))) : Nat) : Int) == (((List.length x2.2.2.1) : Nat) : Int)) == Bool.true))
        ((Go.Abs.Ship.v72.p ((Go.Abs.Ship.listed (Int.toNat x2.2.1) (Int.toNat (((List.length x2.1) : Nat) : Int))), (x2.2.2.1, ()))) ∧
        br ((Go.Abs.Ship.before (Go.Abs.Ship.listed (Int.toNat x2.2.1) (Int.toNat (((List.length x2.1) : Nat) : Int))) x2.2.2.1))
         ((Go.Abs.fitsK Go.IntKind.i64 (x2.2.1 + (1 : Int))) ∧
         (K2 (x2.1, ((x2.2.1 + (1 : Int)), ((Go.Abs.Ship.listed (Int.toNat x2.2.1) (Int.toNat (((List.length x2.1) : Nat) : Int))), ())))))
         ((Go.Abs.fitsK Go.IntKind.i64 (x2.2.1 + (1 : Int))) ∧
         (K2 (x2.1, ((x2.2.1 + (1 : Int)), (x2.2.2.1, ()))))))
        ((Go.Abs.fitsK Go.IntKind.i64 (x2.2.1 + (1 : Int))) ∧
        (K2 (x2.1, ((x2.2.1 + (1 : Int)), (x2.2.2.1, ()))))))
       ((Go.Abs.fitsK Go.IntKind.i64 (x2.2.1 + (1 : Int))) ∧
       (K2 (x2.1, ((x2.2.1 + (1 : Int)), ((Go.Abs.Ship.listed (Int.toNat x2.2.1) (Int.toNat (((List.length x2.1) : Nat) : Int))), ()))))))
      ((Go.Abs.fitsK Go.IntKind.i64 (x2.2.1 + (1 : Int))) ∧
      (K2 (x2.1, ((x2.2.1 + (1 : Int)), (x2.2.2.1, ()))))))
     ((k (Go.Abs.AVal.reg 0 Bool.false) ((Go.Abs.Cont.sl (Go.Abs.Ty.int Go.IntKind.i64) x2.2.2.1) :: [])))) ((bs, ((0 : Int), (([] : List Int), ()))))
theorem eq67 (bs : List (Int × Int)) (k : AVal → List Cont → Prop) : awpF (envOf [(44, mkC [v44]), (84, mkC [v84]), (72, mkC [v72])]) Try.prog kt 67 false Try.f67 (v67.args (bs, ())) (v67.conts (bs, ())) k = vc67 bs k := by kernel_rfl
theorem tx67 : (Try.f67.body.map Code.textsOk).getD true = true := by kernel_rfl

def vc27 (bs : List (Int × Int)) (st fl : Int) (k : AVal → List Cont → Prop) : Prop :=
  (Go.Abs.Ship.v61.p (bs, (st, (fl, ())))) ∧
  br ((Go.Abs.Ship.clIs bs st fl (6 : Int)))
   ((k (Go.Abs.AVal.tup ((Go.Abs.AVal.reg 0 Bool.false) :: ((Go.Abs.AVal.int Go.IntKind.i64 (6 : Int)) :: []))) ((Go.Abs.Cont.sl (Go.Abs.Ty.int Go.IntKind.i64) ([] : List Int)) :: [])))
   (br ((Go.Abs.Ship.clIs bs st fl (3 : Int)))
    ((k (Go.Abs.AVal.tup ((Go.Abs.AVal.reg 0 Bool.false) :: ((Go.Abs.AVal.int Go.IntKind.i64 (3 : Int)) :: []))) ((Go.Abs.Cont.sl (Go.Abs.Ty.int Go.IntKind.i64) ([] : List Int)) :: [])))
    ((Go.Abs.Ship.v66.p (bs, (st, (fl, ())))) ∧
    (k (Go.Abs.AVal.tup ((Go.Abs.AVal.reg 0 Bool.false) :: ((Go.Abs.AVal.int Go.IntKind.i64 (0 : Int)) :: []))) ((Go.Abs.Cont.sl (Go.Abs.Ty.int Go.IntKind.i64) (Go.Abs.Ship.risingOf bs)) :: []))))
theorem eq27 (bs : List (Int × Int)) (st fl : Int) (k : AVal → List Cont → Prop) : awpF (envOf [(61, mkC [v61]), (66, mkC [v66])]) Try.prog kt 27 false Try.f27 (v27.args (bs, st, fl, ())) (v27.conts (bs, st, fl, ())) k = vc27 bs st fl k := by kernel_rfl
theorem tx27 : (Try.f27.body.map Code.textsOk).getD true = true := by kernel_rfl

def vc28 (bs : List (Int × Int)) (st fl : Int) (k : AVal → List Cont → Prop) : Prop :=
  (Go.Abs.Ship.v22.p (bs, (st, (fl, ())))) ∧
  br (((Go.Abs.Ship.checkLoad bs st fl) != (0 : Int)))
   ((Go.Abs.Ship.v22.p (bs, (st, (fl, ())))) ∧
   (k (Go.Abs.AVal.tup ((Go.Abs.AVal.reg 0 Bool.false) :: ((Go.Abs.AVal.int Go.IntKind.i64 (Go.Abs.Ship.checkLoad bs st fl)) :: []))) ((Go.Abs.Cont.sl (Go.Abs.Ty.int Go.IntKind.i64) ([] : List Int)) :: [])))
   ((Go.Abs.Ship.v67.p (bs, ())) ∧
   (k (Go.Abs.AVal.tup ((Go.Abs.AVal.reg 0 Bool.false) :: ((Go.Abs.AVal.int Go.IntKind.i64 (0 : Int)) :: []))) ((Go.Abs.Cont.sl (Go.Abs.Ty.int Go.IntKind.i64) (Go.Abs.Ship.risingOf bs)) :: [])))
theorem eq28 (bs : List (Int × Int)) (st fl : Int) (k : AVal → List Cont → Prop) : awpF (envOf [(22, mkC [v22]), (67, mkC [v67])]) Try.prog kt 28 false Try.f28 (v28.args (bs, st, fl, ())) (v28.conts (bs, st, fl, ())) k = vc28 bs st fl k := by kernel_rfl
theorem tx28 : (Try.f28.body.map Code.textsOk).getD true = true := by kernel_rfl

def vc29 (bs : List (Int × Int)) (st fl : Int) (k : AVal → List Cont → Prop) : Prop :=
  (Go.Abs.Ship.v61.p (bs, (st, (fl, ())))) ∧
  br ((Go.Abs.Ship.clIs bs st fl (6 : Int)))
   ((k (Go.Abs.AVal.tup ((Go.Abs.AVal.reg 0 Bool.false) :: ((Go.Abs.AVal.int Go.IntKind.i64 (6 : Int)) :: []))) ((Go.Abs.Cont.sl (Go.Abs.Ty.int Go.IntKind.i64) ([] : List Int)) :: [])))
   (br ((Go.Abs.Ship.clIs bs st fl (3 : Int)))
    ((k (Go.Abs.AVal.tup ((Go.Abs.AVal.reg 0 Bool.false) :: ((Go.Abs.AVal.int Go.IntKind.i64 (3 : Int)) :: []))) ((Go.Abs.Cont.sl (Go.Abs.Ty.int Go.IntKind.i64) ([] : List Int)) :: [])))
    ((Go.Abs.Ship.v63.p (bs, (st, (fl, ())))) ∧
    (Go.Abs.Ship.v62.p (bs, (st, (fl, ((Go.Abs.Ship.allOf bs), ()))))) ∧
    (((0 : Int) ≤ (((List.length (Go.Abs.Ship.fewS bs (Go.Abs.Ship.allOf bs))) : Nat) : Int)) ∧ (((((List.length (Go.Abs.Ship.fewS bs (Go.Abs.Ship.allOf bs))) : Nat) : Int) = (((List.length (Go.Abs.Ship.fewS bs (Go.Abs.Ship.allOf bs))) : Nat) : Int)) ∧ ((((List.length (Go.Abs.Ship.fewS bs (Go.Abs.Ship.allOf bs))) : Nat) : Int) ≤ ((Go.Abs.big : Nat) : Int)))) ∧
    (k (Go.Abs.AVal.tup ((Go.Abs.AVal.reg 0 Bool.false) :: ((Go.Abs.AVal.int Go.IntKind.i64 (0 : Int)) :: []))) ((Go.Abs.Cont.sl (Go.Abs.Ty.int Go.IntKind.i64) ((List.take (List.length (List.replicate (Int.toNat (((List.length (Go.Abs.Ship.fewS bs (Go.Abs.Ship.allOf bs))) : Nat) : Int)) (Int.ofNat 0))) (Go.Abs.Ship.fewS bs (Go.Abs.Ship.allOf bs))) ++ (List.drop (List.length (Go.Abs.Ship.fewS bs (Go.Abs.Ship.allOf bs))) (List.replicate (Int.toNat (((List.length (Go.Abs.Ship.fewS bs (Go.Abs.Ship.allOf bs))) : Nat) : Int)) (Int.ofNat 0))))) :: []))))
theorem eq29 (bs : List (Int × Int)) (st fl : Int) (k : AVal → List Cont → Prop) : awpF (envOf [(61, mkC [v61]), (62, mkC [v62]), (63, mkC [v63])]) Try.prog kt 29 false Try.f29 (v29.args (bs, st, fl, ())) (v29.conts (bs, st, fl, ())) k = vc29 bs st fl k := by kernel_rfl
theorem tx29 : (Try.f29.body.map Code.textsOk).getD true = true := by kernel_rfl

def vc31 (bs : List (Int × Int)) (st fl : Int) (s : List Int) (k : AVal → List Cont → Prop) : Prop :=
  (Go.Abs.Ship.v64.p (bs, ())) ∧
  br (((((List.length s) : Nat) : Int) != (((List.length bs) : Nat) : Int)))
   ((k (Go.Abs.AVal.bool Bool.false) []))
   ((((0 : Int) ≤ (Go.Abs.Ship.fewestOf bs)) ∧ (((Go.Abs.Ship.fewestOf bs) = (Go.Abs.Ship.fewestOf bs)) ∧ ((Go.Abs.Ship.fewestOf bs) ≤ ((Go.Abs.big : Nat) : Int)))) ∧
   Go.Abs.Loop (σ := ((List Int) × (Int × (Int × ((List (Int × Int)) × (Int × (Int × ((List Int) × Unit)))))))) (fun K5 x5 =>
     br ((decide (x5.2.2.1 < (((List.length x5.1) : Nat) : Int))))
      (∃ h7 : (((0 : Int) ≤ x5.2.2.1) ∧ ((Int.toNat x5.2.2.1) < (List.length x5.1))),
      br (((decide ((x5.1[(Int.toNat x5.2.2.1)]'h7.2) < (0 : Int))) == Bool.false))
       (∃ h8 : (((0 : Int) ≤ x5.2.2.1) ∧ ((Int.toNat x5.2.2.1) < (List.length x5.1))),
       br ((decide ((x5.1[(Int.toNat x5.2.2.1)]'h8.2) ≥ x5.2.1)))
        ((k (Go.Abs.AVal.bool Bool.false) []))
        (∃ h9 : (((0 : Int) ≤ x5.2.2.1) ∧ ((Int.toNat x5.2.2.1) < (List.length x5.1))),
        (((0 : Int) ≤ (x5.1[(Int.toNat x5.2.2.1)]'h9.2)) ∧ ((Int.toNat (x5.1[(Int.toNat x5.2.2.1)]'h9.2)) < (List.length x5.2.2.2.2.2.2.1))) ∧
        ∃ h10 : ((Int.toNat (x5.1[(Int.toNat x5.2.2.1)]'h9.2)) < (List.length x5.2.2.2.2.2.2.1)),
        (Go.Abs.fitsK Go.IntKind.i64 ((x5.2.2.2.2.2.2.1[(Int.toNat (x5.1[(Int.toNat x5.2.2.1)]'h9.2))]'h10) + (1 : Int))) ∧
        (((0 : Int) ≤ (x5.1[(Int.toNat x5.2.2.1)]'h9.2)) ∧ ((Int.toNat (x5.1[(Int.toNat x5.2.2.1)]'h9.2)) < (List.length x5.2.2.2.2.2.2.1))) ∧
        ∃ h11 : ((Int.toNat (x5.1[(Int.toNat x5.2.2.1)]'h9.2)) < (List.length x5.2.2.2.2.2.2.1)),
        (Go.Abs.fitsK Go.IntKind.i64 (x5.2.2.1 + (1 : Int))) ∧
        (K5 (x5.1, (x5.2.1, ((x5.2.2.1 + (1 : Int)), (x5.2.2.2.1, (x5.2.2.2.2.1, (x5.2.2.2.2.2.1, ((List.set x5.2.2.2.2.2.2.1 (Int.toNat (x5.1[(Int.toNat x5.2.2.1)]'h9.2)) ((x5.2.2.2.2.2.2.1[(Int.toNat (x5.1[(Int.toNat x5.2.2.1)]'h9.2))]'h10) + (1 : Int))), ()))))))))))
       ((k (Go.Abs.AVal.bool Bool.false) [])))
      (Go.Abs.Loop (σ := ((List Int) × (Int × (Int × ((List (Int × Int)) × (Int × (Int × ((List Int) × Unit)))))))) (fun K7 x7 =>
        br ((decide (x7.2.2.1 < x7.2.1)))
         ((((0 : Int) ≤ x7.2.2.1) ∧ ((Int.toNat x7.2.2.1) < (List.length x7.2.2.2.2.2.2.1))) ∧
         ∃ h9 : ((Int.toNat x7.2.2.1) < (List.length x7.2.2.2.2.2.2.1)),
         br (((x7.2.2.2.2.2.2.1[(Int.toNat x7.2.2.1)]'h9) == (0 : Int)))
          ((k (Go.Abs.AVal.bool Bool.false) []))
          ((Go.Abs.fitsK Go.IntKind.i64 (x7.2.2.1 + (1 : Int))) ∧
          (K7 (x7.1, (x7.2.1, ((x7.2.2.1 + (1 : Int)), (x7.2.2.2.1, (x7.2.2.2.2.1, (x7.2.2.2.2.2.1, (x7.2.2.2.2.2.2.1, ()))))))))))
         ((Go.Abs.Ship.v45.p (x7.2.2.2.1, (x7.1, ()))) ∧
         (k (Go.Abs.AVal.bool (Go.Abs.Ship.smoothB x7.2.2.2.1 x7.1)) []))) ((x5.1, (x5.2.1, ((0 : Int), (x5.2.2.2.1, (x5.2.2.2.2.1, (x5.2.2.2.2.2.1, (x5.2.2.2.2.2.2.1, ())))))))))) ((s, ((Go.Abs.Ship.fewestOf bs), ((0 : Int), (bs, (st, (fl, ((List.replicate (Int.toNat (Go.Abs.Ship.fewestOf bs)) (Int.ofNat 0)), ())))))))))
theorem eq31 (bs : List (Int × Int)) (st fl : Int) (s : List Int) (k : AVal → List Cont → Prop) : awpF (envOf [(64, mkC [v64]), (45, mkC [v45])]) Try.prog kt 31 false Try.f31 (v31.args (bs, st, fl, s, ())) (v31.conts (bs, st, fl, s, ())) k = vc31 bs st fl s k := by kernel_rfl
theorem tx31 : (Try.f31.body.map Code.textsOk).getD true = true := by kernel_rfl

def vc68 (bs : List (Int × Int)) (st fl : Int) (s : List Int) (n : Nat) (k : AVal → List Cont → Prop) : Prop :=
  (Go.Abs.Ship.v52.p (bs, (st, (fl, (s, ()))))) ∧
  ((List.length (Go.Abs.Ship.weights bs s (5 : Nat))) = (List.length (List.replicate (5 : Nat) (Int.ofNat 0)))) ∧
  (((List.length (Go.Abs.Ship.weights bs s (5 : Nat))) * (Go.Abs.Ty.size (Go.Abs.Ty.int Go.IntKind.i64))) = (Go.Abs.sizeT Go.Proofs.Try.prog (64 : Nat))) ∧
  ((0 : Nat) < (List.length (List.replicate (5 : Nat) (Int.ofNat 0)))) ∧
  (Go.Abs.Ship.v76.p (bs, (st, (fl, (s, ()))))) ∧
  br (((Bool.not (Go.Abs.Ship.smoothB bs s)) == Bool.false))
   (((List.length (Go.Abs.Ship.weights bs s (5 : Nat))) = (5 : Nat)) ∧
   (Go.Abs.Ship.v85.p ((Go.Abs.Ship.weights bs s (5 : Nat)), ())) ∧
   br ((decide ((Go.Abs.Ship.maxL (Go.Abs.Ship.weights bs s (5 : Nat))) > fl)))
    ((k (Go.Abs.AVal.tup ((Go.Abs.AVal.imm (Go.Abs.Ty.int Go.IntKind.i64) ([] : List Int) Bool.false) :: ((Go.Abs.AVal.bool Bool.false) :: []))) []))
    (br (((((List.length s) : Nat) : Int) == (((List.length bs) : Nat) : Int)))
     ((k (Go.Abs.AVal.tup ((Go.Abs.AVal.imm (Go.Abs.Ty.int Go.IntKind.i64) s Bool.false) :: ((Go.Abs.AVal.bool Bool.true) :: []))) []))
     (Go.Abs.Loop (σ := ((List (Int × Int)) × (Int × (Int × ((List Int) × (Bool × (Int × (Int × ((List Int) × Unit))))))))) (fun K6 x6 =>
       br ((decide (x6.2.2.2.2.2.2.1 < x6.2.2.2.2.2.1)))
        ((((0 : Int) ≤ x6.2.2.2.2.2.2.1) ∧ ((Int.toNat x6.2.2.2.2.2.2.1) < (5 : Nat))) ∧
        ∃ h8 : ((Int.toNat x6.2.2.2.2.2.2.1) < (List.length x6.2.2.2.2.2.2.2.1)),
        br (((x6.2.2.2.2.2.2.2.1[(Int.toNat x6.2.2.2.2.2.2.1)]'h8) == (0 : Int)))
         (br (x6.2.2.2.2.1)
          ((Go.Abs.fitsK Go.IntKind.i64 (x6.2.2.2.2.2.2.1 + (1 : Int))) ∧
          (K6 (x6.1, (x6.2.1, (x6.2.2.1, (x6.2.2.2.1, (x6.2.2.2.2.1, (x6.2.2.2.2.2.1, ((x6.2.2.2.2.2.2.1 + (1 : Int)), (x6.2.2.2.2.2.2.2.1, ()))))))))))
          ((((0 : Int) ≤ (((List.length x6.2.2.2.1) : Nat) : Int)) ∧ (((((List.length x6.2.2.2.1) : Nat) : Int) ≤ (((List.length x6.2.2.2.1) : Nat) : Int)) ∧ ((((List.length x6.2.2.2.1) : Nat) : Int) = (((List.length x6.2.2.2.1) : Nat) : Int)))) ∧
          (((List.length (List.take (Int.toNat (((List.length x6.2.2.2.1) : Nat) : Int)) x6.2.2.2.1)) + (List.length (x6.2.2.2.2.2.2.1 :: ([] : List Int)))) ≤ Go.Abs.big) ∧
          ((0 : Nat) < (List.length (x6.2.2.2.2.2.2.1 :: ([] : List Int)))) ∧
          ((Go.Abs.Var.below Go.Abs.Ship.v68 Go.Abs.Ship.m68 n).p (x6.1, (x6.2.1, (x6.2.2.1, (((List.take (Int.toNat (((List.length x6.2.2.2.1) : Nat) : Int)) x6.2.2.2.1) ++ (x6.2.2.2.2.2.2.1 :: ([] : List Int))), ()))))) ∧
          br ((Go.Abs.Ship.goB x6.1 x6.2.1 x6.2.2.1 ((List.take (Int.toNat (((List.length x6.2.2.2.1) : Nat) : Int)) x6.2.2.2.1) ++ (x6.2.2.2.2.2.2.1 :: ([] : List Int)))))
           ((k (Go.Abs.AVal.tup ((Go.Abs.AVal.imm (Go.Abs.Ty.int Go.IntKind.i64) (Go.Abs.Ship.goL x6.1 x6.2.1 x6.2.2.1 ((List.take (Int.toNat (((List.length x6.2.2.2.1) : Nat) : Int)) x6.2.2.2.1) ++ (x6.2.2.2.2.2.2.1 :: ([] : List Int)))) Bool.false) :: ((Go.Abs.AVal.bool Bool.true) :: []))) []))
           ((Go.Abs.fitsK Go.IntKind.i64 (x6.2.2.2.2.2.2.1 + (1 : Int))) ∧
           (K6 (x6.1, (x6.2.1, (x6.2.2.1, (x6.2.2.2.1, (Bool.true, (x6.2.2.2.2.2.1, ((x6.2.2.2.2.2.2.1 + (1 : Int)), (x6.2.2.2.2.2.2.2.1, ()))))))))))))
         ((((0 : Int) ≤ (((List.length x6.2.2.2.1) : Nat) : Int)) ∧ (((((List.length x6.2.2.2.1) : Nat) : Int) ≤ (((List.length x6.2.2.2.1) : Nat) : Int)) ∧ ((((List.length x6.2.2.2.1) : Nat) : Int) = (((List.length x6.2.2.2.1) : Nat) : Int)))) ∧
         (((List.length (List.take (Int.toNat (((List.length x6.2.2.2.1) : Nat) : Int)) x6.2.2.2.1)) + (List.length (x6.2.2.2.2.2.2.1 :: ([] : List Int)))) ≤ Go.Abs.big) ∧
         ((0 : Nat) < (List.length (x6.2.2.2.2.2.2.1 :: ([] : List Int)))) ∧
         ((Go.Abs.Var.below Go.Abs.Ship.v68 Go.Abs.Ship.m68 n).p (x6.1, (x6.2.1, (x6.2.2.1, (((List.take (Int.toNat (((List.length x6.2.2.2.1) : Nat) : Int)) x6.2.2.2.1) ++ (x6.2.2.2.2.2.2.1 :: ([] : List Int))), ()))))) ∧
         br ((Go.Abs.Ship.goB x6.1 x6.2.1 x6.2.2.1 ((List.take (Int.toNat (((List.length x6.2.2.2.1) : Nat) : Int)) x6.2.2.2.1) ++ (x6.2.2.2.2.2.2.1 :: ([] : List Int)))))
          ((k (Go.Abs.AVal.tup ((Go.Abs.AVal.imm (Go.Abs.Ty.int Go.IntKind.i64) (Go.Abs.Ship.goL x6.1 x6.2.1 x6.2.2.1 ((List.take (Int.toNat (((List.length x6.2.2.2.1) : Nat) : Int)) x6.2.2.2.1) ++ (x6.2.2.2.2.2.2.1 :: ([] : List Int)))) Bool.false) :: ((Go.Abs.AVal.bool Bool.true) :: []))) []))
          ((Go.Abs.fitsK Go.IntKind.i64 (x6.2.2.2.2.2.2.1 + (1 : Int))) ∧
          (K6 (x6.1, (x6.2.1, (x6.2.2.1, (x6.2.2.2.1, (x6.2.2.2.2.1, (x6.2.2.2.2.2.1, ((x6.2.2.2.2.2.2.1 + (1 : Int)), (x6.2.2.2.2.2.2.2.1, ()))))))))))))
        ((k (Go.Abs.AVal.tup ((Go.Abs.AVal.imm (Go.Abs.Ty.int Go.IntKind.i64) ([] : List Int) Bool.false) :: ((Go.Abs.AVal.bool Bool.false) :: []))) []))) ((bs, (st, (fl, (s, (Bool.false, (st, ((0 : Int), ((Go.Abs.Ship.weights bs s (5 : Nat)), ()))))))))))))
   ((k (Go.Abs.AVal.tup ((Go.Abs.AVal.imm (Go.Abs.Ty.int Go.IntKind.i64) ([] : List Int) Bool.false) :: ((Go.Abs.AVal.bool Bool.false) :: []))) []))
theorem eq68 (bs : List (Int × Int)) (st fl : Int) (s : List Int) (n : Nat) (k : AVal → List Cont → Prop) : awpF (envOf [(52, mkC [v52]), (76, mkC [v76]), (85, mkC [v85]), (68, mkC [v68.below m68 n])]) Try.prog kt 68 true Try.f68 (v68.args (bs, st, fl, s, ())) (v68.conts (bs, st, fl, s, ())) k = vc68 bs st fl s n k := by kernel_rfl
theorem tx68 : (Try.f68.body.map Code.textsOk).getD true = true := by kernel_rfl

def vc69 (bs : List (Int × Int)) (st fl : Int) (s : List Int) (n : Nat) (k : AVal → List Cont → Prop) : Prop :=
  (Go.Abs.Ship.v56.p (bs, (st, (fl, (s, ()))))) ∧
  br ((Bool.not (Go.Abs.Ship.goodB bs st fl s)))
   ((k (Go.Abs.AVal.tup ((Go.Abs.AVal.imm (Go.Abs.Ty.int Go.IntKind.i64) ([] : List Int) Bool.false) :: ((Go.Abs.AVal.bool Bool.false) :: []))) []))
   (br (((((List.length s) : Nat) : Int) == (((List.length bs) : Nat) : Int)))
    ((k (Go.Abs.AVal.tup ((Go.Abs.AVal.imm (Go.Abs.Ty.int Go.IntKind.i64) s Bool.false) :: ((Go.Abs.AVal.bool Bool.true) :: []))) []))
    ((Go.Abs.Ship.v57.p (bs, (s, (st, ())))) ∧
    Go.Abs.Loop (σ := ((List Int) × (Bool × (Int × ((List (Int × Int)) × (Int × (Int × ((List Int) × Unit)))))))) (fun K6 x6 =>
      br ((decide (x6.2.2.1 < x6.2.2.2.2.1)))
       ((((0 : Int) ≤ x6.2.2.1) ∧ ((Int.toNat x6.2.2.1) < (List.length x6.2.2.2.2.2.2.1))) ∧
       ∃ h8 : ((Int.toNat x6.2.2.1) < (List.length x6.2.2.2.2.2.2.1)),
       br ((((x6.2.2.2.2.2.2.1[(Int.toNat x6.2.2.1)]'h8) == (0 : Int)) == Bool.true))
        (br (x6.2.1)
         ((Go.Abs.fitsK Go.IntKind.i64 (x6.2.2.1 + (1 : Int))) ∧
         (K6 (x6.1, (x6.2.1, ((x6.2.2.1 + (1 : Int)), (x6.2.2.2.1, (x6.2.2.2.2.1, (x6.2.2.2.2.2.1, (x6.2.2.2.2.2.2.1, ())))))))))
         (br ((x6.2.1 == Bool.false))
          ((((0 : Int) ≤ x6.2.2.1) ∧ ((Int.toNat x6.2.2.1) < (List.length x6.2.2.2.2.2.2.1))) ∧
          ∃ h9 : ((Int.toNat x6.2.2.1) < (List.length x6.2.2.2.2.2.2.1)),
          (((List.length ([] : List Int)) + (List.length x6.1)) ≤ Go.Abs.big) ∧
          (((List.length (([] : List Int) ++ x6.1)) + (List.length (x6.2.2.1 :: ([] : List Int)))) ≤ Go.Abs.big) ∧
          ((Go.Abs.Var.below Go.Abs.Ship.v69 Go.Abs.Ship.m69 n).p (x6.2.2.2.1, (x6.2.2.2.2.1, (x6.2.2.2.2.2.1, (((([] : List Int) ++ x6.1) ++ (x6.2.2.1 :: ([] : List Int))), ()))))) ∧
          br ((Go.Abs.Ship.goB x6.2.2.2.1 x6.2.2.2.2.1 x6.2.2.2.2.2.1 ((([] : List Int) ++ x6.1) ++ (x6.2.2.1 :: ([] : List Int)))))
           ((k (Go.Abs.AVal.tup ((Go.Abs.AVal.imm (Go.Abs.Ty.int Go.IntKind.i64) (Go.Abs.Ship.goL x6.2.2.2.1 x6.2.2.2.2.1 x6.2.2.2.2.2.1 ((([] : List Int) ++ x6.1) ++ (x6.2.2.1 :: ([] : List Int)))) Bool.false) :: ((Go.Abs.AVal.bool Bool.true) :: []))) []))
           ((Go.Abs.fitsK Go.IntKind.i64 (x6.2.2.1 + (1 : Int))) ∧
           (K6 (x6.1, (((x6.2.2.2.2.2.2.1[(Int.toNat x6.2.2.1)]'h9) == (0 : Int)), ((x6.2.2.1 + (1 : Int)), (x6.2.2.2.1, (x6.2.2.2.2.1, (x6.2.2.2.2.2.1, (x6.2.2.2.2.2.2.1, ()))))))))))
          ((((List.length ([] : List Int)) + (List.length x6.1)) ≤ Go.Abs.big) ∧
          (((List.length (([] : List Int) ++ x6.1)) + (List.length (x6.2.2.1 :: ([] : List Int)))) ≤ Go.Abs.big) ∧
          ((Go.Abs.Var.below Go.Abs.Ship.v69 Go.Abs.Ship.m69 n).p (x6.2.2.2.1, (x6.2.2.2.2.1, (x6.2.2.2.2.2.1, (((([] : List Int) ++ x6.1) ++ (x6.2.2.1 :: ([] : List Int))), ()))))) ∧
          br ((Go.Abs.Ship.goB x6.2.2.2.1 x6.2.2.2.2.1 x6.2.2.2.2.2.1 ((([] : List Int) ++ x6.1) ++ (x6.2.2.1 :: ([] : List Int)))))
           ((k (Go.Abs.AVal.tup ((Go.Abs.AVal.imm (Go.Abs.Ty.int Go.IntKind.i64) (Go.Abs.Ship.goL x6.2.2.2.1 x6.2.2.2.2.1 x6.2.2.2.2.2.1 ((([] : List Int) ++ x6.1) ++ (x6.2.2.1 :: ([] : List Int)))) Bool.false) :: ((Go.Abs.AVal.bool Bool.true) :: []))) []))
           ((Go.Abs.fitsK Go.IntKind.i64 (x6.2.2.1 + (1 : Int))) ∧
           (K6 (x6.1, (Bool.true, ((x6.2.2.1 + (1 : Int)), (x6.2.2.2.1, (x6.2.2.2.2.1, (x6.2.2.2.2.2.1, (x6.2.2.2.2.2.2.1, ()))))))))))))
        (br ((x6.2.1 == Bool.false))
         ((((0 : Int) ≤ x6.2.2.1) ∧ ((Int.toNat x6.2.2.1) < (List.length x6.2.2.2.2.2.2.1))) ∧
         ∃ h9 : ((Int.toNat x6.2.2.1) < (List.length x6.2.2.2.2.2.2.1)),
         (((List.length ([] : List Int)) + (List.length x6.1)) ≤ Go.Abs.big) ∧
         (((List.length (([] : List Int) ++ x6.1)) + (List.length (x6.2.2.1 :: ([] : List Int)))) ≤ Go.Abs.big) ∧
         ((Go.Abs.Var.below Go.Abs.Ship.v69 Go.Abs.Ship.m69 n).p (x6.2.2.2.1, (x6.2.2.2.2.1, (x6.2.2.2.2.2.1, (((([] : List Int) ++ x6.1) ++ (x6.2.2.1 :: ([] : List Int))), ()))))) ∧
         br ((Go.Abs.Ship.goB x6.2.2.2.1 x6.2.2.2.2.1 x6.2.2.2.2.2.1 ((([] : List Int) ++ x6.1) ++ (x6.2.2.1 :: ([] : List Int)))))
          ((k (Go.Abs.AVal.tup ((Go.Abs.AVal.imm (Go.Abs.Ty.int Go.IntKind.i64) (Go.Abs.Ship.goL x6.2.2.2.1 x6.2.2.2.2.1 x6.2.2.2.2.2.1 ((([] : List Int) ++ x6.1) ++ (x6.2.2.1 :: ([] : List Int)))) Bool.false) :: ((Go.Abs.AVal.bool Bool.true) :: []))) []))
          ((Go.Abs.fitsK Go.IntKind.i64 (x6.2.2.1 + (1 : Int))) ∧
          (K6 (x6.1, (((x6.2.2.2.2.2.2.1[(Int.toNat x6.2.2.1)]'h9) == (0 : Int)), ((x6.2.2.1 + (1 : Int)), (x6.2.2.2.1, (x6.2.2.2.2.1, (x6.2.2.2.2.2.1, (x6.2.2.2.2.2.2.1, ()))))))))))
         ((((List.length ([] : List Int)) + (List.length x6.1)) ≤ Go.Abs.big) ∧
         (((List.length (([] : List Int) ++ x6.1)) + (List.length (x6.2.2.1 :: ([] : List Int)))) ≤ Go.Abs.big) ∧
         ((Go.Abs.Var.below Go.Abs.Ship.v69 Go.Abs.Ship.m69 n).p (x6.2.2.2.1, (x6.2.2.2.2.1, (x6.2.2.2.2.2.1, (((([] : List Int) ++ x6.1) ++ (x6.2.2.1 :: ([] : List Int))), ()))))) ∧
         br ((Go.Abs.Ship.goB x6.2.2.2.1 x6.2.2.2.2.1 x6.2.2.2.2.2.1 ((([] : List Int) ++ x6.1) ++ (x6.2.2.1 :: ([] : List Int)))))
          ((k (Go.Abs.AVal.tup ((Go.Abs.AVal.imm (Go.Abs.Ty.int Go.IntKind.i64) (Go.Abs.Ship.goL x6.2.2.2.1 x6.2.2.2.2.1 x6.2.2.2.2.2.1 ((([] : List Int) ++ x6.1) ++ (x6.2.2.1 :: ([] : List Int)))) Bool.false) :: ((Go.Abs.AVal.bool Bool.true) :: []))) []))
          ((Go.Abs.fitsK Go.IntKind.i64 (x6.2.2.1 + (1 : Int))) ∧
          (K6 (x6.1, (Bool.true, ((x6.2.2.1 + (1 : Int)), (x6.2.2.2.1, (x6.2.2.2.2.1, (x6.2.2.2.2.2.1, (x6.2.2.2.2.2.2.1, ()))))))))))))
       ((k (Go.Abs.AVal.tup ((Go.Abs.AVal.imm (Go.Abs.Ty.int Go.IntKind.i64) ([] : List Int) Bool.false) :: ((Go.Abs.AVal.bool Bool.false) :: []))) []))) ((s, (Bool.false, ((0 : Int), (bs, (st, (fl, ((Go.Abs.Ship.wtsI bs s st), ()))))))))))
theorem eq69 (bs : List (Int × Int)) (st fl : Int) (s : List Int) (n : Nat) (k : AVal → List Cont → Prop) : awpF (envOf [(56, mkC [v56]), (57, mkC [v57]), (69, mkC [v69.below m69 n])]) Try.prog kt 69 true Try.f69 (v69.args (bs, st, fl, s, ())) (v69.conts (bs, st, fl, s, ())) k = vc69 bs st fl s n k := by kernel_rfl
theorem tx69 : (Try.f69.body.map Code.textsOk).getD true = true := by kernel_rfl

def vc32 (bs : List (Int × Int)) (st fl : Int) (k : AVal → List Cont → Prop) : Prop :=
  (Go.Abs.Ship.v61.p (bs, (st, (fl, ())))) ∧
  br ((Go.Abs.Ship.clIs bs st fl (6 : Int)))
   ((k (Go.Abs.AVal.tup ((Go.Abs.AVal.imm (Go.Abs.Ty.int Go.IntKind.i64) ([] : List Int) Bool.false) :: ((Go.Abs.AVal.int Go.IntKind.i64 (6 : Int)) :: []))) []))
   (br ((Go.Abs.Ship.clIs bs st fl (3 : Int)))
    ((k (Go.Abs.AVal.tup ((Go.Abs.AVal.imm (Go.Abs.Ty.int Go.IntKind.i64) ([] : List Int) Bool.false) :: ((Go.Abs.AVal.int Go.IntKind.i64 (3 : Int)) :: []))) []))
    ((Go.Abs.Ship.v68.p (bs, (st, (fl, (([] : List Int), ()))))) ∧
    br ((Bool.not (Go.Abs.Ship.goB bs st fl ([] : List Int))))
     ((k (Go.Abs.AVal.tup ((Go.Abs.AVal.imm (Go.Abs.Ty.int Go.IntKind.i64) ([] : List Int) Bool.false) :: ((Go.Abs.AVal.int Go.IntKind.i64 (23 : Int)) :: []))) []))
     ((k (Go.Abs.AVal.tup ((Go.Abs.AVal.imm (Go.Abs.Ty.int Go.IntKind.i64) (Go.Abs.Ship.goL bs st fl ([] : List Int)) Bool.false) :: ((Go.Abs.AVal.int Go.IntKind.i64 (0 : Int)) :: []))) []))))
theorem eq32 (bs : List (Int × Int)) (st fl : Int) (k : AVal → List Cont → Prop) : awpF (envOf [(61, mkC [v61]), (68, mkC [v68])]) Try.prog kt 32 true Try.f32 (v32.args (bs, st, fl, ())) (v32.conts (bs, st, fl, ())) k = vc32 bs st fl k := by kernel_rfl
theorem tx32 : (Try.f32.body.map Code.textsOk).getD true = true := by kernel_rfl

def vc33 (bs : List (Int × Int)) (st fl : Int) (k : AVal → List Cont → Prop) : Prop :=
  (Go.Abs.Ship.v22.p (bs, (st, (fl, ())))) ∧
  br (((Go.Abs.Ship.checkLoad bs st fl) != (0 : Int)))
   ((Go.Abs.Ship.v22.p (bs, (st, (fl, ())))) ∧
   (k (Go.Abs.AVal.tup ((Go.Abs.AVal.imm (Go.Abs.Ty.int Go.IntKind.i64) ([] : List Int) Bool.false) :: ((Go.Abs.AVal.int Go.IntKind.i64 (Go.Abs.Ship.checkLoad bs st fl)) :: []))) []))
   ((Go.Abs.Ship.v69.p (bs, (st, (fl, (([] : List Int), ()))))) ∧
   br ((Bool.not (Go.Abs.Ship.goB bs st fl ([] : List Int))))
    ((k (Go.Abs.AVal.tup ((Go.Abs.AVal.imm (Go.Abs.Ty.int Go.IntKind.i64) ([] : List Int) Bool.false) :: ((Go.Abs.AVal.int Go.IntKind.i64 (23 : Int)) :: []))) []))
    ((k (Go.Abs.AVal.tup ((Go.Abs.AVal.imm (Go.Abs.Ty.int Go.IntKind.i64) (Go.Abs.Ship.goL bs st fl ([] : List Int)) Bool.false) :: ((Go.Abs.AVal.int Go.IntKind.i64 (0 : Int)) :: []))) [])))
theorem eq33 (bs : List (Int × Int)) (st fl : Int) (k : AVal → List Cont → Prop) : awpF (envOf [(22, mkC [v22]), (69, mkC [v69])]) Try.prog kt 33 true Try.f33 (v33.args (bs, st, fl, ())) (v33.conts (bs, st, fl, ())) k = vc33 bs st fl k := by kernel_rfl
theorem tx33 : (Try.f33.body.map Code.textsOk).getD true = true := by kernel_rfl

def vc70 (l : List (List Int)) (k : AVal → List Cont → Prop) : Prop :=
  Go.Abs.Loop (σ := ((List (List Int)) × (Int × ((List (List Int)) × (Int × (Int × Unit)))))) (fun K2 x2 =>
    br ((decide (x2.2.2.2.2.1 < x2.2.2.2.1)))
     (∃ h4 : (((0 : Int) ≤ x2.2.2.2.2.1) ∧ ((Int.toNat x2.2.2.2.2.1) < (List.length x2.2.2.1))),
     (Go.Abs.fitsK Go.IntKind.i64 (x2.2.1 + (((List.length (x2.2.2.1[(Int.toNat x2.2.2.2.2.1)]'h4.2)) : Nat) : Int))) ∧
     br ((decide ((x2.2.1 + (((List.length (x2.2.2.1[(Int.toNat x2.2.2.2.2.1)]'h4.2)) : Nat) : Int)) < (0 : Int))))
      (False)
      ((Go.Abs.fitsK Go.IntKind.i64 (x2.2.2.2.2.1 + (1 : Int))) ∧
      (K2 (x2.1, ((x2.2.1 + (((List.length (x2.2.2.1[(Int.toNat x2.2.2.2.2.1)]'h4.2)) : Nat) : Int)), (x2.2.2.1, (x2.2.2.2.1, ((x2.2.2.2.2.1 + (1 : Int)), ()))))))))
     ((((1 : Int) ≤ x2.2.1) ∧ (x2.2.1 ≤ (1000000 : Int))) ∧
     Go.Abs.Loop (σ := ((List (List Int)) × (Int × (Int × ((List Int) × Unit))))) (fun K4 x4 =>
       br ((decide (x4.2.2.1 < x4.2.1)))
        (∃ h6 : (((0 : Int) ≤ x4.2.2.1) ∧ ((Int.toNat x4.2.2.1) < (List.length x4.1))),
        (((List.length x4.2.2.2.1) + (List.length (x4.1[(Int.toNat x4.2.2.1)]'h6.2))) ≤ Go.Abs.big) ∧
        (Go.Abs.fitsK Go.IntKind.i64 (x4.2.2.1 + (1 : Int))) ∧
        (K4 (x4.1, (x4.2.1, ((x4.2.2.1 + (1 : Int)), ((x4.2.2.2.1 ++ (x4.1[(Int.toNat x4.2.2.1)]'h6.2)), ()))))))
        ((k (Go.Abs.AVal.reg 0 Bool.false) ((Go.Abs.Cont.sl (Go.Abs.Ty.int Go.IntKind.i64) x4.2.2.2.1) :: [])))) ((x2.1, ((((List.length x2.1) : Nat) : Int), ((0 : Int), (([] : List Int), ()))))))) ((l, ((0 : Int), (l, ((((List.length l) : Nat) : Int), ((0 : Int), ()))))))
theorem eq70 (l : List (List Int)) (k : AVal → List Cont → Prop) : awpF (envOf [(86, cGrow)]) Try.prog kt 70 false Try.f70 (v70.args (l, ())) (v70.conts (l, ())) k = vc70 l k := by kernel_rfl
theorem tx70 : (Try.f70.body.map Code.textsOk).getD true = true := by kernel_rfl

def vc34 (bs : List (Int × Int)) (st fl : Int) (s : List Int) (k : AVal → List Cont → Prop) : Prop :=
  (Go.Abs.Ship.v61.p (bs, (st, (fl, ())))) ∧
  br ((Go.Abs.Ship.clIs bs st fl (6 : Int)))
   ((k (Go.Abs.AVal.tup ((Go.Abs.AVal.reg 0 Bool.false) :: ((Go.Abs.AVal.int Go.IntKind.i64 (6 : Int)) :: []))) ((Go.Abs.Cont.sl (Go.Abs.Ty.int Go.IntKind.i64) ([] : List Int)) :: [])))
   (br ((Go.Abs.Ship.clIs bs st fl (3 : Int)))
    ((k (Go.Abs.AVal.tup ((Go.Abs.AVal.reg 0 Bool.false) :: ((Go.Abs.AVal.int Go.IntKind.i64 (3 : Int)) :: []))) ((Go.Abs.Cont.sl (Go.Abs.Ty.int Go.IntKind.i64) ([] : List Int)) :: [])))
    (br ((decide ((((List.length s) : Nat) : Int) ≥ (((List.length bs) : Nat) : Int))))
     ((k (Go.Abs.AVal.tup ((Go.Abs.AVal.reg 0 Bool.false) :: ((Go.Abs.AVal.int Go.IntKind.i64 (6 : Int)) :: []))) ((Go.Abs.Cont.sl (Go.Abs.Ty.int Go.IntKind.i64) ([] : List Int)) :: [])))
     ((Go.Abs.fitsK Go.IntKind.i64 (st - (1 : Int))) ∧
     (Go.Abs.Ship.v59.p ((0 : Int), ((st - (1 : Int)), (s, ())))) ∧
     br ((Bool.not (Bool.not (Go.Abs.Ship.anyOut (0 : Int) (st - (1 : Int)) s))))
      ((k (Go.Abs.AVal.tup ((Go.Abs.AVal.reg 0 Bool.false) :: ((Go.Abs.AVal.int Go.IntKind.i64 (2 : Int)) :: []))) ((Go.Abs.Cont.sl (Go.Abs.Ty.int Go.IntKind.i64) ([] : List Int)) :: [])))
      (Go.Abs.Loop (σ := ((List Int) × ((List (Int × Int)) × (Int × (Int × (Int × (Int × ((List Int) × Unit)))))))) (fun K5 x5 =>
        br ((decide (x5.2.2.2.2.2.1 < x5.2.2.2.2.1)))
         ((Go.Abs.Ship.v70.p ((x5.1 :: ((x5.2.2.2.2.2.1 :: ([] : List Int)) :: ([] : List (List Int)))), ())) ∧
         (Go.Abs.Ship.v68.p (x5.2.1, (x5.2.2.1, (x5.2.2.2.1, ((List.flatten (x5.1 :: ((x5.2.2.2.2.2.1 :: ([] : List Int)) :: ([] : List (List Int))))), ()))))) ∧
         br ((Go.Abs.Ship.goB x5.2.1 x5.2.2.1 x5.2.2.2.1 (List.flatten (x5.1 :: ((x5.2.2.2.2.2.1 :: ([] : List Int)) :: ([] : List (List Int)))))))
          ((((List.length x5.2.2.2.2.2.2.1) + (List.length (x5.2.2.2.2.2.1 :: ([] : List Int)))) ≤ Go.Abs.big) ∧
          (Go.Abs.fitsK Go.IntKind.i64 (x5.2.2.2.2.2.1 + (1 : Int))) ∧
          (K5 (x5.1, (x5.2.1, (x5.2.2.1, (x5.2.2.2.1, (x5.2.2.2.2.1, ((x5.2.2.2.2.2.1 + (1 : Int)), ((x5.2.2.2.2.2.2.1 ++ (x5.2.2.2.2.2.1 :: ([] : List Int))), ())))))))))
          ((Go.Abs.fitsK Go.IntKind.i64 (x5.2.2.2.2.2.1 + (1 : Int))) ∧
          (K5 (x5.1, (x5.2.1, (x5.2.2.1, (x5.2.2.2.1, (x5.2.2.2.2.1, ((x5.2.2.2.2.2.1 + (1 : Int)), (x5.2.2.2.2.2.2.1, ()))))))))))
         ((k (Go.Abs.AVal.tup ((Go.Abs.AVal.reg 0 Bool.false) :: ((Go.Abs.AVal.int Go.IntKind.i64 (0 : Int)) :: []))) ((Go.Abs.Cont.sl (Go.Abs.Ty.int Go.IntKind.i64) x5.2.2.2.2.2.2.1) :: [])))) ((s, (bs, (st, (fl, (st, ((0 : Int), (([] : List Int), ()))))))))))))
theorem eq34 (bs : List (Int × Int)) (st fl : Int) (s : List Int) (k : AVal → List Cont → Prop) : awpF (envOf [(61, mkC [v61]), (59, mkC [v59]), (68, mkC [v68]), (70, mkC [v70])]) Try.prog kt 34 false Try.f34 (v34.args (bs, st, fl, s, ())) (v34.conts (bs, st, fl, s, ())) k = vc34 bs st fl s k := by kernel_rfl
theorem tx34 : (Try.f34.body.map Code.textsOk).getD true = true := by kernel_rfl

def vc35 (bs : List (Int × Int)) (st fl : Int) (s : List Int) (k : AVal → List Cont → Prop) : Prop :=
  (Go.Abs.Ship.v22.p (bs, (st, (fl, ())))) ∧
  br (((Go.Abs.Ship.checkLoad bs st fl) != (0 : Int)))
   ((Go.Abs.Ship.v22.p (bs, (st, (fl, ())))) ∧
   (k (Go.Abs.AVal.tup ((Go.Abs.AVal.reg 0 Bool.false) :: ((Go.Abs.AVal.int Go.IntKind.i64 (Go.Abs.Ship.checkLoad bs st fl)) :: []))) ((Go.Abs.Cont.sl (Go.Abs.Ty.int Go.IntKind.i64) ([] : List Int)) :: [])))
   (br ((decide ((((List.length s) : Nat) : Int) ≥ (((List.length bs) : Nat) : Int))))
    ((k (Go.Abs.AVal.tup ((Go.Abs.AVal.reg 0 Bool.false) :: ((Go.Abs.AVal.int Go.IntKind.i64 (6 : Int)) :: []))) ((Go.Abs.Cont.sl (Go.Abs.Ty.int Go.IntKind.i64) ([] : List Int)) :: [])))
    (Go.Abs.Loop (σ := ((List Int) × (Int × ((List (Int × Int)) × (Int × (Int × Unit)))))) (fun K5 x5 =>
      br ((decide (x5.2.1 < (((List.length x5.1) : Nat) : Int))))
       (∃ h7 : (((0 : Int) ≤ x5.2.1) ∧ ((Int.toNat x5.2.1) < (List.length x5.1))),
       br (((decide ((x5.1[(Int.toNat x5.2.1)]'h7.2) < (0 : Int))) == Bool.false))
        (∃ h8 : (((0 : Int) ≤ x5.2.1) ∧ ((Int.toNat x5.2.1) < (List.length x5.1))),
        br ((decide ((x5.1[(Int.toNat x5.2.1)]'h8.2) ≥ x5.2.2.2.1)))
         ((k (Go.Abs.AVal.tup ((Go.Abs.AVal.reg 0 Bool.false) :: ((Go.Abs.AVal.int Go.IntKind.i64 (2 : Int)) :: []))) ((Go.Abs.Cont.sl (Go.Abs.Ty.int Go.IntKind.i64) ([] : List Int)) :: [])))
         ((Go.Abs.fitsK Go.IntKind.i64 (x5.2.1 + (1 : Int))) ∧
         (K5 (x5.1, ((x5.2.1 + (1 : Int)), (x5.2.2.1, (x5.2.2.2.1, (x5.2.2.2.2.1, ()))))))))
        ((k (Go.Abs.AVal.tup ((Go.Abs.AVal.reg 0 Bool.false) :: ((Go.Abs.AVal.int Go.IntKind.i64 (2 : Int)) :: []))) ((Go.Abs.Cont.sl (Go.Abs.Ty.int Go.IntKind.i64) ([] : List Int)) :: []))))
       (Go.Abs.Loop (σ := ((List Int) × (Int × ((List (Int × Int)) × (Int × (Int × ((List Int) × Unit))))))) (fun K7 x7 =>
         br ((decide (x7.2.1 < x7.2.2.2.1)))
          ((((List.length ([] : List Int)) + (List.length x7.1)) ≤ Go.Abs.big) ∧
          (((List.length (([] : List Int) ++ x7.1)) + (List.length (x7.2.1 :: ([] : List Int)))) ≤ Go.Abs.big) ∧
          (Go.Abs.Ship.v69.p (x7.2.2.1, (x7.2.2.2.1, (x7.2.2.2.2.1, (((([] : List Int) ++ x7.1) ++ (x7.2.1 :: ([] : List Int))), ()))))) ∧
          br ((Go.Abs.Ship.goB x7.2.2.1 x7.2.2.2.1 x7.2.2.2.2.1 ((([] : List Int) ++ x7.1) ++ (x7.2.1 :: ([] : List Int)))))
           ((((List.length x7.2.2.2.2.2.1) + (List.length (x7.2.1 :: ([] : List Int)))) ≤ Go.Abs.big) ∧
           (Go.Abs.fitsK Go.IntKind.i64 (x7.2.1 + (1 : Int))) ∧
           (K7 (x7.1, ((x7.2.1 + (1 : Int)), (x7.2.2.1, (x7.2.2.2.1, (x7.2.2.2.2.1, ((x7.2.2.2.2.2.1 ++ (x7.2.1 :: ([] : List Int))), ()))))))))
           ((Go.Abs.fitsK Go.IntKind.i64 (x7.2.1 + (1 : Int))) ∧
           (K7 (x7.1, ((x7.2.1 + (1 : Int)), (x7.2.2.1, (x7.2.2.2.1, (x7.2.2.2.2.1, (x7.2.2.2.2.2.1, ())))))))))
          ((k (Go.Abs.AVal.tup ((Go.Abs.AVal.reg 0 Bool.false) :: ((Go.Abs.AVal.int Go.IntKind.i64 (0 : Int)) :: []))) ((Go.Abs.Cont.sl (Go.Abs.Ty.int Go.IntKind.i64) x7.2.2.2.2.2.1) :: [])))) ((x5.1, ((0 : Int), (x5.2.2.1, (x5.2.2.2.1, (x5.2.2.2.2.1, (([] : List Int), ()))))))))) ((s, ((0 : Int), (bs, (st, (fl, ()))))))))
theorem eq35 (bs : List (Int × Int)) (st fl : Int) (s : List Int) (k : AVal → List Cont → Prop) : awpF (envOf [(22, mkC [v22]), (69, mkC [v69])]) Try.prog kt 35 false Try.f35 (v35.args (bs, st, fl, s, ())) (v35.conts (bs, st, fl, s, ())) k = vc35 bs st fl s k := by kernel_rfl
theorem tx35 : (Try.f35.body.map Code.textsOk).getD true = true := by kernel_rfl

def vc95 (l : List Int) (x : Int) (k : AVal → List Cont → Prop) : Prop :=
  Go.Abs.Loop (σ := ((List Int) × (Int × (Int × (Int × Unit))))) (fun K3 x3 =>
    br ((decide (x3.2.2.2.1 < x3.2.2.1)))
     (∃ h5 : (((0 : Int) ≤ x3.2.2.2.1) ∧ ((Int.toNat x3.2.2.2.1) < (List.length x3.1))),
     br ((x3.2.1 == (x3.1[(Int.toNat x3.2.2.2.1)]'h5.2)))
      ((k (Go.Abs.AVal.int Go.IntKind.i64 x3.2.2.2.1) []))
      ((Go.Abs.fitsK Go.IntKind.i64 (x3.2.2.2.1 + (1 : Int))) ∧
      (K3 (x3.1, (x3.2.1, (x3.2.2.1, ((x3.2.2.2.1 + (1 : Int)), ())))))))
     ((k (Go.Abs.AVal.int Go.IntKind.i64 (-(1 : Int) : Int)) []))) ((l, (x, ((((List.length l) : Nat) : Int), ((0 : Int), ())))))
theorem eq95 (l : List Int) (x : Int) (k : AVal → List Cont → Prop) : awpF (envOf []) Try.prog kt 95 false Try.f95 (v95.args (l, x, ())) (v95.conts (l, x, ())) k = vc95 l x k := by kernel_rfl
theorem tx95 : (Try.f95.body.map Code.textsOk).getD true = true := by kernel_rfl

def vc90 (l : List Int) (x : Int) (k : AVal → List Cont → Prop) : Prop :=
  (Go.Abs.Ship.v95.p (l, (x, ()))) ∧
  (k (Go.Abs.AVal.bool (decide ((Go.Abs.Ship.indexI x l) ≥ (0 : Int)))) [])
theorem eq90 (l : List Int) (x : Int) (k : AVal → List Cont → Prop) : awpF (envOf [(95, mkC [v95])]) Try.prog kt 90 false Try.f90 (v90.args (l, x, ())) (v90.conts (l, x, ())) k = vc90 l x k := by kernel_rfl
theorem tx90 : (Try.f90.body.map Code.textsOk).getD true = true := by kernel_rfl

def vc89 (x : Int) (l : List Int) (k : AVal → List Cont → Prop) : Prop :=
  (Go.Abs.Ship.v90.p (l, (x, ()))) ∧
  (k (Go.Abs.AVal.bool (Go.Abs.Ship.hasI l x)) [])
theorem eq89 (x : Int) (l : List Int) (k : AVal → List Cont → Prop) : awpF (envOf [(90, mkC [v90])]) Try.prog kt 89 false Try.f89 (v89.args (x, l, ())) (v89.conts (x, l, ())) k = vc89 x l k := by kernel_rfl
theorem tx89 : (Try.f89.body.map Code.textsOk).getD true = true := by kernel_rfl

def vc93b (l m : List Int) (k : AVal → List Cont → Prop) : Prop :=
  Go.Abs.Loop (σ := ((List Int) × ((List Int) × (Int × (Int × Unit))))) (fun K3 x3 =>
    br ((decide (x3.2.2.2.1 < x3.2.2.1)))
     (∃ h5 : (((0 : Int) ≤ x3.2.2.2.1) ∧ ((Int.toNat x3.2.2.2.1) < (List.length x3.1))),
     (Go.Abs.Ship.v89.p ((x3.1[(Int.toNat x3.2.2.2.1)]'h5.2), (x3.2.1, ()))) ∧
     br ((Go.Abs.Ship.hasI x3.2.1 (x3.1[(Int.toNat x3.2.2.2.1)]'h5.2)))
      ((k (Go.Abs.AVal.int Go.IntKind.i64 x3.2.2.2.1) []))
      ((Go.Abs.fitsK Go.IntKind.i64 (x3.2.2.2.1 + (1 : Int))) ∧
      (K3 (x3.1, (x3.2.1, (x3.2.2.1, ((x3.2.2.2.1 + (1 : Int)), ())))))))
     ((k (Go.Abs.AVal.int Go.IntKind.i64 (-(1 : Int) : Int)) []))) ((l, (m, ((((List.length l) : Nat) : Int), ((0 : Int), ())))))
theorem eq93b (l m : List Int) (k : AVal → List Cont → Prop) : awpF (envOf [(89, mkC [v89])]) Try.prog kt 93 false Try.f93 (v93b.args (l, m, ())) (v93b.conts (l, m, ())) k = vc93b l m k := by kernel_rfl

def vc88 (l : List Int) (k : AVal → List Cont → Prop) : Prop :=
  ∀ b2 : Bool,
  ∀ b3 : ((b2 = Bool.true) → (l = ([] : List Int))),
  br (b2)
   ((k (Go.Abs.AVal.reg 0 Bool.false) ((Go.Abs.Cont.sl (Go.Abs.Ty.int Go.IntKind.i64) ([] : List Int)) :: [])))
   ((((List.length ([] : List Int)) + (List.length l)) ≤ Go.Abs.big) ∧
   (k (Go.Abs.AVal.reg 0 Bool.false) ((Go.Abs.Cont.sl (Go.Abs.Ty.int Go.IntKind.i64) (([] : List Int) ++ l)) :: [])))
theorem eq88 (l : List Int) (k : AVal → List Cont → Prop) : awpF (envOf []) Try.prog kt 88 false Try.f88 (v88.args (l, ())) (v88.conts (l, ())) k = vc88 l k := by kernel_rfl
theorem tx88 : (Try.f88.body.map Code.textsOk).getD true = true := by kernel_rfl

def vc87 (m l : List Int) (k : AVal → List Cont → Prop) : Prop :=
  (Go.Abs.Ship.v93b.p (l, (m, ()))) ∧
  br (((Go.Abs.Ship.indexHas l m) == (-(1 : Int) : Int)))
   ((k (Go.Abs.AVal.reg 0 Bool.false) ((Go.Abs.Cont.sl (Go.Abs.Ty.int Go.IntKind.i64) l) :: [])))
   ((Go.Abs.fitsK Go.IntKind.i64 ((Go.Abs.Ship.indexHas l m) + (1 : Int))) ∧
   Go.Abs.Loop (σ := ((List Int) × (Int × (Int × ((List Int) × Unit))))) (fun K3 x3 =>
     br ((decide (x3.2.2.1 < (((List.length x3.2.2.2.1) : Nat) : Int))))
      ((((0 : Int) ≤ x3.2.2.1) ∧ ((Int.toNat x3.2.2.1) < (List.length x3.2.2.2.1))) ∧
      ∃ h5 : ((Int.toNat x3.2.2.1) < (List.length x3.2.2.2.1)),
      (Go.Abs.Ship.v89.p ((x3.2.2.2.1[(Int.toNat x3.2.2.1)]'h5), (x3.1, ()))) ∧
      br ((Bool.not (Go.Abs.Ship.hasI x3.1 (x3.2.2.2.1[(Int.toNat x3.2.2.1)]'h5))))
       ((((0 : Int) ≤ x3.2.1) ∧ ((Int.toNat x3.2.1) < (List.length x3.2.2.2.1))) ∧
       ∃ h6 : ((Int.toNat x3.2.1) < (List.length x3.2.2.2.1)),
       (Go.Abs.fitsK Go.IntKind.i64 (x3.2.1 + (1 : Int))) ∧
       (Go.Abs.fitsK Go.IntKind.i64 (x3.2.2.1 + (1 : Int))) ∧
       (K3 (x3.1, ((x3.2.1 + (1 : Int)), ((x3.2.2.1 + (1 : Int)), ((List.set x3.2.2.2.1 (Int.toNat x3.2.1) (x3.2.2.2.1[(Int.toNat x3.2.2.1)]'h5)), ()))))))
       ((Go.Abs.fitsK Go.IntKind.i64 (x3.2.2.1 + (1 : Int))) ∧
       (K3 (x3.1, (x3.2.1, ((x3.2.2.1 + (1 : Int)), (x3.2.2.2.1, ())))))))
      ((((0 : Int) ≤ x3.2.1) ∧ (x3.2.1 ≤ (((List.length x3.2.2.2.1) : Nat) : Int))) ∧
      (((Int.toNat x3.2.1) + ((List.length x3.2.2.2.1) - (Int.toNat x3.2.1))) ≤ (List.length x3.2.2.2.1)) ∧
      (((0 : Int) ≤ x3.2.1) ∧ (x3.2.1 ≤ (((List.length (((List.take (Int.toNat x3.2.1) x3.2.2.2.1) ++ (List.replicate ((List.length x3.2.2.2.1) - (Int.toNat x3.2.1)) (Int.ofNat 0))) ++ (List.drop ((Int.toNat x3.2.1) + ((List.length x3.2.2.2.1) - (Int.toNat x3.2.1))) x3.2.2.2.1))) : Nat) : Int))) ∧
      (k (Go.Abs.AVal.sub 0 (0 : Nat) (Int.toNat x3.2.1) Bool.false) ((Go.Abs.Cont.sl (Go.Abs.Ty.int Go.IntKind.i64) (((List.take (Int.toNat x3.2.1) x3.2.2.2.1) ++ (List.replicate ((List.length x3.2.2.2.1) - (Int.toNat x3.2.1)) (Int.ofNat 0))) ++ (List.drop ((Int.toNat x3.2.1) + ((List.length x3.2.2.2.1) - (Int.toNat x3.2.1))) x3.2.2.2.1))) :: [])))) ((m, ((Go.Abs.Ship.indexHas l m), (((Go.Abs.Ship.indexHas l m) + (1 : Int)), (l, ()))))))
theorem eq87 (m l : List Int) (k : AVal → List Cont → Prop) : awpF (envOf [(93, mkC [v93b]), (89, mkC [v89])]) Try.prog kt 87 false Try.f87 (v87.args (m, l, ())) (v87.conts (m, l, ())) k = vc87 m l k := by kernel_rfl
theorem tx87 : (Try.f87.body.map Code.textsOk).getD true = true := by kernel_rfl

def vc71 (bs : List (Int × Int)) (st fl : Int) (al b : List Int) (m : Int) (n : Nat) (k : AVal → List Cont → Prop) : Prop :=
  br ((m == (0 : Int)))
   ((Go.Abs.Ship.v88.p (al, ())) ∧
   (Go.Abs.Ship.v87.p (b, (al, ()))) ∧
   br ((Go.Abs.Ship.anyHas b al))
    ((Go.Abs.Ship.v62.p (bs, (st, (fl, ((List.take (List.length (Go.Abs.Ship.restOf b al)) (List.drop (0 : Nat) (Go.Abs.Ship.restZ b al))), ()))))) ∧
    (k (Go.Abs.AVal.tup ((Go.Abs.AVal.imm (Go.Abs.Ty.int Go.IntKind.i64) b Bool.false) :: ((Go.Abs.AVal.bool (decide ((Go.Abs.Ship.fewN bs (List.take (List.length (Go.Abs.Ship.restOf b al)) (List.drop (0 : Nat) (Go.Abs.Ship.restZ b al)))) ≤ st))) :: []))) []))
    ((Go.Abs.Ship.v62.p (bs, (st, (fl, (al, ()))))) ∧
    (k (Go.Abs.AVal.tup ((Go.Abs.AVal.imm (Go.Abs.Ty.int Go.IntKind.i64) b Bool.false) :: ((Go.Abs.AVal.bool (decide ((Go.Abs.Ship.fewN bs al) ≤ st))) :: []))) [])))
   (br ((decide ((((List.length b) : Nat) : Int) > (0 : Int))))
    ((Go.Abs.fitsK Go.IntKind.i64 ((((List.length b) : Nat) : Int) - (1 : Int))) ∧
    ∃ h8 : (((0 : Int) ≤ ((((List.length b) : Nat) : Int) - (1 : Int))) ∧ ((Int.toNat ((((List.length b) : Nat) : Int) - (1 : Int))) < (List.length b))),
    (Go.Abs.fitsK Go.IntKind.i64 ((b[(Int.toNat ((((List.length b) : Nat) : Int) - (1 : Int)))]'h8.2) + (1 : Int))) ∧
    Go.Abs.Loop (σ := ((List (Int × Int)) × (Int × (Int × ((List Int) × (Int × (Int × ((List Int) × Unit)))))))) (fun K9 x9 =>
      br ((decide (x9.2.2.2.2.2.1 < (((List.length x9.2.2.2.1) : Nat) : Int))))
       ((((0 : Int) ≤ (((List.length x9.2.2.2.2.2.2.1) : Nat) : Int)) ∧ (((((List.length x9.2.2.2.2.2.2.1) : Nat) : Int) ≤ (((List.length x9.2.2.2.2.2.2.1) : Nat) : Int)) ∧ ((((List.length x9.2.2.2.2.2.2.1) : Nat) : Int) = (((List.length x9.2.2.2.2.2.2.1) : Nat) : Int)))) ∧
       (((List.length (List.take (Int.toNat (((List.length x9.2.2.2.2.2.2.1) : Nat) : Int)) x9.2.2.2.2.2.2.1)) + (List.length (x9.2.2.2.2.2.1 :: ([] : List Int)))) ≤ Go.Abs.big) ∧
       ((0 : Nat) < (List.length (x9.2.2.2.2.2.1 :: ([] : List Int)))) ∧
       (Go.Abs.fitsK Go.IntKind.i64 (x9.2.2.2.2.1 - (1 : Int))) ∧
       ((Go.Abs.Var.below Go.Abs.Ship.v71 Go.Abs.Ship.m71 n).p (x9.1, (x9.2.1, (x9.2.2.1, (x9.2.2.2.1, (((List.take (Int.toNat (((List.length x9.2.2.2.2.2.2.1) : Nat) : Int)) x9.2.2.2.2.2.2.1) ++ (x9.2.2.2.2.2.1 :: ([] : List Int))), ((x9.2.2.2.2.1 - (1 : Int)), ()))))))) ∧
       br ((Go.Abs.Ship.wiB x9.1 x9.2.1 (x9.2.2.2.2.1 - (1 : Int)) ((List.take (Int.toNat (((List.length x9.2.2.2.2.2.2.1) : Nat) : Int)) x9.2.2.2.2.2.2.1) ++ (x9.2.2.2.2.2.1 :: ([] : List Int)))))
        ((k (Go.Abs.AVal.tup ((Go.Abs.AVal.imm (Go.Abs.Ty.int Go.IntKind.i64) (Go.Abs.Ship.wiL0 x9.1 x9.2.1 (x9.2.2.2.2.1 - (1 : Int)) ((List.take (Int.toNat (((List.length x9.2.2.2.2.2.2.1) : Nat) : Int)) x9.2.2.2.2.2.2.1) ++ (x9.2.2.2.2.2.1 :: ([] : List Int)))) Bool.false) :: ((Go.Abs.AVal.bool Bool.true) :: []))) []))
        ((Go.Abs.fitsK Go.IntKind.i64 (x9.2.2.2.2.2.1 + (1 : Int))) ∧
        (K9 (x9.1, (x9.2.1, (x9.2.2.1, (x9.2.2.2.1, (x9.2.2.2.2.1, ((x9.2.2.2.2.2.1 + (1 : Int)), (x9.2.2.2.2.2.2.1, ()))))))))))
       ((k (Go.Abs.AVal.tup ((Go.Abs.AVal.imm (Go.Abs.Ty.int Go.IntKind.i64) ([] : List Int) Bool.false) :: ((Go.Abs.AVal.bool Bool.false) :: []))) []))) ((bs, (st, (fl, (al, (m, (((b[(Int.toNat ((((List.length b) : Nat) : Int) - (1 : Int)))]'h8.2) + (1 : Int)), (b, ())))))))))
    (Go.Abs.Loop (σ := ((List (Int × Int)) × (Int × (Int × ((List Int) × (Int × (Int × ((List Int) × Unit)))))))) (fun K8 x8 =>
      br ((decide (x8.2.2.2.2.2.1 < (((List.length x8.2.2.2.1) : Nat) : Int))))
       ((((0 : Int) ≤ (((List.length x8.2.2.2.2.2.2.1) : Nat) : Int)) ∧ (((((List.length x8.2.2.2.2.2.2.1) : Nat) : Int) ≤ (((List.length x8.2.2.2.2.2.2.1) : Nat) : Int)) ∧ ((((List.length x8.2.2.2.2.2.2.1) : Nat) : Int) = (((List.length x8.2.2.2.2.2.2.1) : Nat) : Int)))) ∧
       (((List.length (List.take (Int.toNat (((List.length x8.2.2.2.2.2.2.1) : Nat) : Int)) x8.2.2.2.2.2.2.1)) + (List.length (x8.2.2.2.2.2.1 :: ([] : List Int)))) ≤ Go.Abs.big) ∧
       ((0 : Nat) < (List.length (x8.2.2.2.2.2.1 :: ([] : List Int)))) ∧
       (Go.Abs.fitsK Go.IntKind.i64 (x8.2.2.2.2.1 - (1 : Int))) ∧
       ((Go.Abs.Var.below Go.Abs.Ship.v71 Go.Abs.Ship.m71 n).p (x8.1, (x8.2.1, (x8.2.2.1, (x8.2.2.2.1, (((List.take (Int.toNat (((List.length x8.2.2.2.2.2.2.1) : Nat) : Int)) x8.2.2.2.2.2.2.1) ++ (x8.2.2.2.2.2.1 :: ([] : List Int))), ((x8.2.2.2.2.1 - (1 : Int)), ()))))))) ∧
       br ((Go.Abs.Ship.wiB x8.1 x8.2.1 (x8.2.2.2.2.1 - (1 : Int)) ((List.take (Int.toNat (((List.length x8.2.2.2.2.2.2.1) : Nat) : Int)) x8.2.2.2.2.2.2.1) ++ (x8.2.2.2.2.2.1 :: ([] : List Int)))))
        ((k (Go.Abs.AVal.tup ((Go.Abs.AVal.imm (Go.Abs.Ty.int Go.IntKind.i64) (Go.Abs.Ship.wiL0 x8.1 x8.2.1 (x8.2.2.2.2.1 - (1 : Int)) ((List.take (Int.toNat (((List.length x8.2.2.2.2.2.2.1) : Nat) : Int)) x8.2.2.2.2.2.2.1) ++ (x8.2.2.2.2.2.1 :: ([] : List Int)))) Bool.false) :: ((Go.Abs.AVal.bool Bool.true) :: []))) []))
        ((Go.Abs.fitsK Go.IntKind.i64 (x8.2.2.2.2.2.1 + (1 : Int))) ∧
        (K8 (x8.1, (x8.2.1, (x8.2.2.1, (x8.2.2.2.1, (x8.2.2.2.2.1, ((x8.2.2.2.2.2.1 + (1 : Int)), (x8.2.2.2.2.2.2.1, ()))))))))))
       ((k (Go.Abs.AVal.tup ((Go.Abs.AVal.imm (Go.Abs.Ty.int Go.IntKind.i64) ([] : List Int) Bool.false) :: ((Go.Abs.AVal.bool Bool.false) :: []))) []))) ((bs, (st, (fl, (al, (m, ((0 : Int), (b, ()))))))))))
theorem eq71 (bs : List (Int × Int)) (st fl : Int) (al b : List Int) (m : Int) (n : Nat) (k : AVal → List Cont → Prop) : awpF (envOf [(88, mkC [v88]), (87, mkC [v87]), (62, mkC [v62]), (71, mkC [v71.below m71 n])]) Try.prog kt 71 true Try.f71 (v71.args (bs, st, fl, al, b, m, ())) (v71.conts (bs, st, fl, al, b, m, ())) k = vc71 bs st fl al b m n k := by kernel_rfl
theorem tx71 : (Try.f71.body.map Code.textsOk).getD true = true := by kernel_rfl

def vc63i (bs : List (Int × Int)) (st fl : Int) (k : AVal → List Cont → Prop) : Prop :=
  Go.Abs.Loop (σ := (Int × (Int × ((List Int) × Unit)))) (fun K4 x4 =>
    br ((decide (x4.2.1 < x4.1)))
     ((((List.length x4.2.2.1) + (List.length (x4.2.1 :: ([] : List Int)))) ≤ Go.Abs.big) ∧
     (Go.Abs.fitsK Go.IntKind.i64 (x4.2.1 + (1 : Int))) ∧
     (K4 (x4.1, ((x4.2.1 + (1 : Int)), ((x4.2.2.1 ++ (x4.2.1 :: ([] : List Int))), ())))))
     ((k (Go.Abs.AVal.imm (Go.Abs.Ty.int Go.IntKind.i64) x4.2.2.1 Bool.false) []))) (((((List.length bs) : Nat) : Int), ((0 : Int), (([] : List Int), ()))))
theorem eq63i (bs : List (Int × Int)) (st fl : Int) (k : AVal → List Cont → Prop) : awpF (envOf []) Try.prog kt 63 true Try.f63 (v63i.args (bs, st, fl, ())) (v63i.conts (bs, st, fl, ())) k = vc63i bs st fl k := by kernel_rfl

def vc36 (bs : List (Int × Int)) (st fl : Int) (k : AVal → List Cont → Prop) : Prop :=
  (Go.Abs.Ship.v61.p (bs, (st, (fl, ())))) ∧
  br ((Go.Abs.Ship.clIs bs st fl (6 : Int)))
   ((k (Go.Abs.AVal.tup ((Go.Abs.AVal.imm (Go.Abs.Ty.int Go.IntKind.i64) ([] : List Int) Bool.false) :: ((Go.Abs.AVal.int Go.IntKind.i64 (6 : Int)) :: []))) []))
   (br ((Go.Abs.Ship.clIs bs st fl (3 : Int)))
    ((k (Go.Abs.AVal.tup ((Go.Abs.AVal.imm (Go.Abs.Ty.int Go.IntKind.i64) ([] : List Int) Bool.false) :: ((Go.Abs.AVal.int Go.IntKind.i64 (3 : Int)) :: []))) []))
    ((Go.Abs.Ship.v63i.p (bs, (st, (fl, ())))) ∧
    (Go.Abs.fitsK Go.IntKind.i64 ((((List.length (Go.Abs.Ship.allOf bs)) : Nat) : Int) + (1 : Int))) ∧
    Go.Abs.Loop (σ := ((List (Int × Int)) × (Int × (Int × ((List Int) × (Int × (Int × Unit))))))) (fun K4 x4 =>
      br ((decide (x4.2.2.2.2.2.1 < x4.2.2.2.2.1)))
       ((Go.Abs.Ship.v71.p (x4.1, (x4.2.1, (x4.2.2.1, (x4.2.2.2.1, (([] : List Int), (x4.2.2.2.2.2.1, ()))))))) ∧
       br ((Go.Abs.Ship.wiB x4.1 x4.2.1 x4.2.2.2.2.2.1 ([] : List Int)))
        ((k (Go.Abs.AVal.tup ((Go.Abs.AVal.imm (Go.Abs.Ty.int Go.IntKind.i64) (Go.Abs.Ship.wiL0 x4.1 x4.2.1 x4.2.2.2.2.2.1 ([] : List Int)) Bool.false) :: ((Go.Abs.AVal.int Go.IntKind.i64 (0 : Int)) :: []))) []))
        ((Go.Abs.fitsK Go.IntKind.i64 (x4.2.2.2.2.2.1 + (1 : Int))) ∧
        (K4 (x4.1, (x4.2.1, (x4.2.2.1, (x4.2.2.2.1, (x4.2.2.2.2.1, ((x4.2.2.2.2.2.1 + (1 : Int)), ())))))))))
       ((k (Go.Abs.AVal.tup ((Go.Abs.AVal.imm (Go.Abs.Ty.int Go.IntKind.i64) ([] : List Int) Bool.false) :: ((Go.Abs.AVal.int Go.IntKind.i64 (5 : Int)) :: []))) []))) ((bs, (st, (fl, ((Go.Abs.Ship.allOf bs), (((((List.length (Go.Abs.Ship.allOf bs)) : Nat) : Int) + (1 : Int)), ((0 : Int), ())))))))))
theorem eq36 (bs : List (Int × Int)) (st fl : Int) (k : AVal → List Cont → Prop) : awpF (envOf [(61, mkC [v61]), (63, mkC [v63i]), (71, mkC [v71])]) Try.prog kt 36 true Try.f36 (v36.args (bs, st, fl, ())) (v36.conts (bs, st, fl, ())) k = vc36 bs st fl k := by kernel_rfl
theorem tx36 : (Try.f36.body.map Code.textsOk).getD true = true := by kernel_rfl

def vc37 (bs : List (Int × Int)) (st fl : Int) (k : AVal → List Cont → Prop) : Prop :=
  (Go.Abs.Ship.v22.p (bs, (st, (fl, ())))) ∧
  br (((Go.Abs.Ship.checkLoad bs st fl) != (0 : Int)))
   ((Go.Abs.Ship.v22.p (bs, (st, (fl, ())))) ∧
   (k (Go.Abs.AVal.tup ((Go.Abs.AVal.reg 0 Bool.false) :: ((Go.Abs.AVal.int Go.IntKind.i64 (Go.Abs.Ship.checkLoad bs st fl)) :: []))) ((Go.Abs.Cont.sl (Go.Abs.Ty.int Go.IntKind.i64) ([] : List Int)) :: [])))
   (((0 : Int) ≤ (((List.length bs) : Nat) : Int)) ∧
   (Go.Abs.fitsK Go.IntKind.i64 ((Go.Abs.shlA Go.IntKind.i64 (1 : Int) (((List.length bs) : Nat) : Int)) - (1 : Int))) ∧
   (Go.Abs.Ship.v44.p (((Go.Abs.shlA Go.IntKind.i64 (1 : Int) (((List.length bs) : Nat) : Int)) - (1 : Int)), ((((List.length bs) : Nat) : Int), ()))) ∧
   Go.Abs.Loop (σ := (Int × (Int × ((List (Int × Int)) × (Int × (Int × ((List Int) × Unit))))))) (fun K4 x4 =>
     ((0 : Int) ≤ x4.1) ∧
     br ((decide (x4.2.1 < (Go.Abs.shlA Go.IntKind.i64 (1 : Int) x4.1))))
      ((Go.Abs.Ship.v44.p (x4.2.1, (x4.1, ()))) ∧
      (Go.Abs.Ship.v48.p (x4.2.2.1, ((Go.Abs.Ship.listed (Int.toNat x4.2.1) (Int.toNat x4.1)), ()))) ∧
      (Go.Abs.Ship.v64.p ((Go.Abs.Ship.others x4.2.2.1 (Go.Abs.Ship.listed (Int.toNat x4.2.1) (Int.toNat x4.1))), ())) ∧
      br (((decide ((Go.Abs.Ship.fewestOf (Go.Abs.Ship.others x4.2.2.1 (Go.Abs.Ship.listed (Int.toNat x4.2.1) (Int.toNat x4.1)))) ≤ x4.2.2.2.1)) == Bool.true))
       (br (((decide ((((List.length (Go.Abs.Ship.listed (Int.toNat x4.2.1) (Int.toNat x4.1))) : Nat) : Int) < (((List.length x4.2.2.2.2.2.1) : Nat) : Int))) == Bool.false))
        (br ((((((List.length (Go.Abs.Ship.listed (Int.toNat x4.2.1) (Int.toNat x4.1))) : Nat) : Int) == (((List.length x4.2.2.2.2.2.1) : Nat) : Int)) == Bool.true))
         ((Go.Abs.Ship.v72.p ((Go.Abs.Ship.listed (Int.toNat x4.2.1) (Int.toNat x4.1)), (x4.2.2.2.2.2.1, ()))) ∧
         br ((Go.Abs.Ship.before (Go.Abs.Ship.listed (Int.toNat x4.2.1) (Int.toNat x4.1)) x4.2.2.2.2.2.1))
          ((Go.Abs.fitsK Go.IntKind.i64 (x4.2.1 + (1 : Int))) ∧
          (K4 (x4.1, ((x4.2.1 + (1 : Int)), (x4.2.2.1, (x4.2.2.2.1, (x4.2.2.2.2.1, ((Go.Abs.Ship.listed (Int.toNat x4.2.1) (Int.toNat x4.1)), ()))))))))
          ((Go.Abs.fitsK Go.IntKind.i64 (x4.2.1 + (1 : Int))) ∧
          (K4 (x4.1, ((x4.2.1 + (1 : Int)), (x4.2.2.1, (x4.2.2.2.1, (x4.2.2.2.2.1, (x4.2.2.2.2.2.1, ())))))))))
         ((Go.Abs.fitsK Go.IntKind.i64 (x4.2.1 + (1 : Int))) ∧
         (K4 (x4.1, ((x4.2.1 + (1 : Int)), (x4.2.2.1, (x4.2.2.2.1, (x4.2.2.2.2.1, (x4.2.2.2.2.2.1, ())))))))))
        ((Go.Abs.fitsK Go.IntKind.i64 (x4.2.1 + (1 : Int))) ∧
        (K4 (x4.1, ((x4.2.1 + (1 : Int)), (x4.2.2.1, (x4.2.2.2.1, (x4.2.2.2.2.1, ((Go.Abs.Ship.listed (Int.toNat x4.2.1) (Int.toNat x4.1)), ())))))))))
       ((Go.Abs.fitsK Go.IntKind.i64 (x4.2.1 + (1 : Int))) ∧
       (K4 (x4.1, ((x4.2.1 + (1 : Int)), (x4.2.2.1, (x4.2.2.2.1, (x4.2.2.2.2.1, (x4.2.2.2.2.2.1, ())))))))))
      ((k (Go.Abs.AVal.tup ((Go.Abs.AVal.reg 0 Bool.false) :: ((Go.Abs.AVal.int Go.IntKind.i64 (0 : Int)) :: []))) ((Go.Abs.Cont.sl (Go.Abs.Ty.int Go.IntKind.i64) x4.2.2.2.2.2.1) :: [])))) (((((List.length bs) : Nat) : Int), ((0 : Int), (bs, (st, (fl, ((Go.Abs.Ship.listed (Int.toNat ((Go.Abs.shlA Go.IntKind.i64 (1 : Int) (((List.length bs) : Nat) : Int)) - (1 : Int))) (Int.toNat (((List.length bs) : Nat) : Int))), ()))))))))
theorem eq37 (bs : List (Int × Int)) (st fl : Int) (k : AVal → List Cont → Prop) : awpF (envOf [(22, mkC [v22]), (44, mkC [v44]), (48, mkC [v48]), (64, mkC [v64]), (72, mkC [v72])]) Try.prog kt 37 false Try.f37 (v37.args (bs, st, fl, ())) (v37.conts (bs, st, fl, ())) k = vc37 bs st fl k := by kernel_rfl
theorem tx37 : (Try.f37.body.map Code.textsOk).getD true = true := by kernel_rfl

def vc74 (i j : Int) (bs : List (Int × Int)) (st fl : Int) (s : List Int) (k : AVal → List Cont → Prop) : Prop :=
  ∃ h7 : (((0 : Int) ≤ i) ∧ ((Int.toNat i) < (List.length bs))),
  ∃ h8 : (((0 : Int) ≤ j) ∧ ((Int.toNat j) < (List.length bs))),
  br (((bs[(Int.toNat i)]'h7.2).1 != (bs[(Int.toNat j)]'h8.2).1))
   (∃ h9 : (((0 : Int) ≤ i) ∧ ((Int.toNat i) < (List.length bs))),
   ∃ h10 : (((0 : Int) ≤ j) ∧ ((Int.toNat j) < (List.length bs))),
   (Go.Abs.fitsK Go.IntKind.i64 ((bs[(Int.toNat i)]'h9.2).1 - (bs[(Int.toNat j)]'h10.2).1)) ∧
   (k (Go.Abs.AVal.int Go.IntKind.i64 ((bs[(Int.toNat i)]'h9.2).1 - (bs[(Int.toNat j)]'h10.2).1)) []))
   (∃ h9 : (((0 : Int) ≤ i) ∧ ((Int.toNat i) < (List.length s))),
   ∃ h10 : (((0 : Int) ≤ j) ∧ ((Int.toNat j) < (List.length s))),
   br (((s[(Int.toNat i)]'h9.2) != (s[(Int.toNat j)]'h10.2)))
    (∃ h11 : (((0 : Int) ≤ i) ∧ ((Int.toNat i) < (List.length s))),
    ∃ h12 : (((0 : Int) ≤ j) ∧ ((Int.toNat j) < (List.length s))),
    (Go.Abs.fitsK Go.IntKind.i64 ((s[(Int.toNat i)]'h11.2) - (s[(Int.toNat j)]'h12.2))) ∧
    (k (Go.Abs.AVal.int Go.IntKind.i64 ((s[(Int.toNat i)]'h11.2) - (s[(Int.toNat j)]'h12.2))) []))
    ((Go.Abs.fitsK Go.IntKind.i64 (j - i)) ∧
    (k (Go.Abs.AVal.int Go.IntKind.i64 (j - i)) [])))
theorem eq74 (i j : Int) (bs : List (Int × Int)) (st fl : Int) (s : List Int) (k : AVal → List Cont → Prop) : awpF (envOf []) Try.prog kt 74 false Try.f74 (v74.args (i, j, bs, st, fl, s, ())) (v74.conts (i, j, bs, st, fl, s, ())) k = vc74 i j bs st fl s k := by kernel_rfl
theorem tx74 : (Try.f74.body.map Code.textsOk).getD true = true := by kernel_rfl

def vc38 (bs : List (Int × Int)) (st fl : Int) (s : List Int) (k : AVal → List Cont → Prop) : Prop :=
  (Go.Abs.Ship.v51.p (bs, (st, (fl, (s, ()))))) ∧
  br ((Go.Abs.Ship.seIs bs st fl s (6 : Int)))
   ((k (Go.Abs.AVal.tup ((Go.Abs.AVal.reg 0 Bool.false) :: ((Go.Abs.AVal.int Go.IntKind.i64 (6 : Int)) :: []))) ((Go.Abs.Cont.sl (Go.Abs.Ty.int Go.IntKind.i64) ([] : List Int)) :: [])))
   (br ((Go.Abs.Ship.seIs bs st fl s (3 : Int)))
    ((k (Go.Abs.AVal.tup ((Go.Abs.AVal.reg 0 Bool.false) :: ((Go.Abs.AVal.int Go.IntKind.i64 (3 : Int)) :: []))) ((Go.Abs.Cont.sl (Go.Abs.Ty.int Go.IntKind.i64) ([] : List Int)) :: [])))
    (br ((Go.Abs.Ship.seIs bs st fl s (15 : Int)))
     ((k (Go.Abs.AVal.tup ((Go.Abs.AVal.reg 0 Bool.false) :: ((Go.Abs.AVal.int Go.IntKind.i64 (15 : Int)) :: []))) ((Go.Abs.Cont.sl (Go.Abs.Ty.int Go.IntKind.i64) ([] : List Int)) :: [])))
     (br ((Go.Abs.Ship.seIs bs st fl s (2 : Int)))
      ((k (Go.Abs.AVal.tup ((Go.Abs.AVal.reg 0 Bool.false) :: ((Go.Abs.AVal.int Go.IntKind.i64 (2 : Int)) :: []))) ((Go.Abs.Cont.sl (Go.Abs.Ty.int Go.IntKind.i64) ([] : List Int)) :: [])))
      (br ((Go.Abs.Ship.seIs bs st fl s (23 : Int)))
       ((k (Go.Abs.AVal.tup ((Go.Abs.AVal.reg 0 Bool.false) :: ((Go.Abs.AVal.int Go.IntKind.i64 (23 : Int)) :: []))) ((Go.Abs.Cont.sl (Go.Abs.Ty.int Go.IntKind.i64) ([] : List Int)) :: [])))
       ((Go.Abs.Ship.v63.p (bs, (st, (fl, ())))) ∧
       (Go.Abs.Ship.v73.p (bs, (st, (fl, (s, ((Go.Abs.Ship.allOf bs), ())))))) ∧
       (k (Go.Abs.AVal.tup ((Go.Abs.AVal.reg 0 Bool.false) :: ((Go.Abs.AVal.int Go.IntKind.i64 (0 : Int)) :: []))) ((Go.Abs.Cont.sl (Go.Abs.Ty.int Go.IntKind.i64) (Go.Abs.Ship.outSorted bs s (Go.Abs.Ship.allOf bs))) :: [])))))))
theorem eq38 (bs : List (Int × Int)) (st fl : Int) (s : List Int) (k : AVal → List Cont → Prop) : awpF (envOf [(51, mkC [v51]), (63, mkC [v63]), (73, mkC [v73])]) Try.prog kt 38 false Try.f38 (v38.args (bs, st, fl, s, ())) (v38.conts (bs, st, fl, s, ())) k = vc38 bs st fl s k := by kernel_rfl
theorem tx38 : (Try.f38.body.map Code.textsOk).getD true = true := by kernel_rfl

def vc39 (bs : List (Int × Int)) (st fl : Int) (s : List Int) (k : AVal → List Cont → Prop) : Prop :=
  (Go.Abs.Ship.v55.p (bs, (st, (fl, (s, ()))))) ∧
  br (((Go.Abs.Ship.stowErr bs st fl s) != (0 : Int)))
   ((Go.Abs.Ship.v55.p (bs, (st, (fl, (s, ()))))) ∧
   (k (Go.Abs.AVal.tup ((Go.Abs.AVal.reg 0 Bool.false) :: ((Go.Abs.AVal.int Go.IntKind.i64 (Go.Abs.Ship.stowErr bs st fl s)) :: []))) ((Go.Abs.Cont.sl (Go.Abs.Ty.int Go.IntKind.i64) ([] : List Int)) :: [])))
   (Go.Abs.Loop (σ := ((List Int) × (Int × ((List (Int × Int)) × (Int × (Int × ((List Int) × Unit))))))) (fun K5 x5 =>
     br ((decide (x5.2.1 ≤ (20 : Int))))
      (Go.Abs.Loop (σ := ((List Int) × (Int × (Int × ((List (Int × Int)) × (Int × (Int × ((List Int) × Unit)))))))) (fun K7 x7 =>
        br ((decide (x7.2.2.1 < x7.2.2.2.2.1)))
         ((Go.Abs.fitsK Go.IntKind.i64 ((((List.length x7.1) : Nat) : Int) - (1 : Int))) ∧
         Go.Abs.Loop (σ := ((List Int) × (Int × (Int × (Int × ((List (Int × Int)) × (Int × (Int × ((List Int) × Unit))))))))) (fun K9 x9 =>
           br ((decide (x9.2.2.2.1 ≥ (0 : Int))))
            (∃ h11 : (((0 : Int) ≤ x9.2.2.2.1) ∧ ((Int.toNat x9.2.2.2.1) < (List.length x9.1))),
            br ((((x9.1[(Int.toNat x9.2.2.2.1)]'h11.2) == x9.2.2.1) == Bool.true))
             (∃ h12 : (((0 : Int) ≤ x9.2.2.2.1) ∧ ((Int.toNat x9.2.2.2.1) < (List.length x9.2.2.2.2.1))),
             br (((x9.2.2.2.2.1[(Int.toNat x9.2.2.2.1)]'h12.2).1 == x9.2.1))
              ((((List.length x9.2.2.2.2.2.2.2.1) + (List.length (x9.2.2.2.1 :: ([] : List Int)))) ≤ Go.Abs.big) ∧
              (Go.Abs.fitsK Go.IntKind.i64 (x9.2.2.2.1 - (1 : Int))) ∧
              (K9 (x9.1, (x9.2.1, (x9.2.2.1, ((x9.2.2.2.1 - (1 : Int)), (x9.2.2.2.2.1, (x9.2.2.2.2.2.1, (x9.2.2.2.2.2.2.1, ((x9.2.2.2.2.2.2.2.1 ++ (x9.2.2.2.1 :: ([] : List Int))), ()))))))))))
              ((Go.Abs.fitsK Go.IntKind.i64 (x9.2.2.2.1 - (1 : Int))) ∧
              (K9 (x9.1, (x9.2.1, (x9.2.2.1, ((x9.2.2.2.1 - (1 : Int)), (x9.2.2.2.2.1, (x9.2.2.2.2.2.1, (x9.2.2.2.2.2.2.1, (x9.2.2.2.2.2.2.2.1, ())))))))))))
             ((Go.Abs.fitsK Go.IntKind.i64 (x9.2.2.2.1 - (1 : Int))) ∧
             (K9 (x9.1, (x9.2.1, (x9.2.2.1, ((x9.2.2.2.1 - (1 : Int)), (x9.2.2.2.2.1, (x9.2.2.2.2.2.1, (x9.2.2.2.2.2.2.1, (x9.2.2.2.2.2.2.2.1, ())))))))))))
            ((Go.Abs.fitsK Go.IntKind.i64 (x9.2.2.1 + (1 : Int))) ∧
            (K7 (x9.1, (x9.2.1, ((x9.2.2.1 + (1 : Int)), (x9.2.2.2.2.1, (x9.2.2.2.2.2.1, (x9.2.2.2.2.2.2.1, (x9.2.2.2.2.2.2.2.1, ())))))))))) ((x7.1, (x7.2.1, (x7.2.2.1, (((((List.length x7.1) : Nat) : Int) - (1 : Int)), (x7.2.2.2.1, (x7.2.2.2.2.1, (x7.2.2.2.2.2.1, (x7.2.2.2.2.2.2.1, ()))))))))))
         ((Go.Abs.fitsK Go.IntKind.i64 (x7.2.1 + (1 : Int))) ∧
         (K5 (x7.1, ((x7.2.1 + (1 : Int)), (x7.2.2.2.1, (x7.2.2.2.2.1, (x7.2.2.2.2.2.1, (x7.2.2.2.2.2.2.1, ()))))))))) ((x5.1, (x5.2.1, ((0 : Int), (x5.2.2.1, (x5.2.2.2.1, (x5.2.2.2.2.1, (x5.2.2.2.2.2.1, ())))))))))
      ((k (Go.Abs.AVal.tup ((Go.Abs.AVal.reg 0 Bool.false) :: ((Go.Abs.AVal.int Go.IntKind.i64 (0 : Int)) :: []))) ((Go.Abs.Cont.sl (Go.Abs.Ty.int Go.IntKind.i64) x5.2.2.2.2.2.1) :: [])))) ((s, ((1 : Int), (bs, (st, (fl, (([] : List Int), ()))))))))
theorem eq39 (bs : List (Int × Int)) (st fl : Int) (s : List Int) (k : AVal → List Cont → Prop) : awpF (envOf [(55, mkC [v55])]) Try.prog kt 39 false Try.f39 (v39.args (bs, st, fl, s, ())) (v39.conts (bs, st, fl, s, ())) k = vc39 bs st fl s k := by kernel_rfl
theorem tx39 : (Try.f39.body.map Code.textsOk).getD true = true := by kernel_rfl

def vc41 (bs : List (Int × Int)) (st fl : Int) (k : AVal → List Cont → Prop) : Prop :=
  (Go.Abs.Ship.v23.p (bs, (st, (fl, ())))) ∧
  (Go.Abs.Ship.v29.p (bs, (st, (fl, ())))) ∧
  (Go.Abs.Ship.v27.p (bs, (st, (fl, ())))) ∧
  br ((((Go.Abs.Ship.checkLoad bs st fl) != (0 : Int)) == Bool.false))
   (br ((((Go.Abs.Ship.checkLoad bs st fl) != (0 : Int)) == Bool.false))
    (br ((((Go.Abs.Ship.checkLoad bs st fl) != (0 : Int)) == Bool.false))
     ((Go.Abs.Ship.v17.p ((Go.Abs.Ship.smoothN bs st fl), ())) ∧
     br (((Go.Abs.Ship.longL (Go.Abs.Ship.smoothN bs st fl)) == Bool.false))
      ((Go.Abs.Ship.v17.p ((Go.Abs.Ship.risingN bs st fl), ())) ∧
      br ((Go.Abs.Ship.longL (Go.Abs.Ship.risingN bs st fl)))
       ((k (Go.Abs.AVal.tup ((Go.Abs.AVal.int Go.IntKind.i64 (Go.Abs.Ship.fewestN bs st fl)) :: ((Go.Abs.AVal.bool Bool.false) :: []))) []))
       ((Go.Abs.Ship.v25.p (bs, (st, (fl, ((Go.Abs.Ship.risingN bs st fl), ()))))) ∧
       (Go.Abs.Ship.v26.p (bs, (st, (fl, ((Go.Abs.Ship.risingN bs st fl), ()))))) ∧
       br ((((Go.Abs.Ship.riseErr bs st fl (Go.Abs.Ship.risingN bs st fl)) == (0 : Int)) == Bool.true))
        (br ((((Go.Abs.Ship.riseErr bs st fl (Go.Abs.Ship.risingN bs st fl)) == (0 : Int)) == Bool.true))
         (br ((((Go.Abs.Ship.riseN bs st fl (Go.Abs.Ship.risingN bs st fl)) == (Go.Abs.Ship.fewestN bs st fl)) == Bool.true))
          (br ((((Go.Abs.Ship.riseN bs st fl (Go.Abs.Ship.risingN bs st fl)) == (Go.Abs.Ship.fewestN bs st fl)) == Bool.true))
           ((Go.Abs.Ship.v31.p (bs, (st, (fl, ((Go.Abs.Ship.smoothN bs st fl), ()))))) ∧
           (k (Go.Abs.AVal.tup ((Go.Abs.AVal.int Go.IntKind.i64 (Go.Abs.Ship.fewestN bs st fl)) :: ((Go.Abs.AVal.bool (Go.Abs.Ship.smoothest bs (Go.Abs.Ship.smoothN bs st fl))) :: []))) []))
           ((k (Go.Abs.AVal.tup ((Go.Abs.AVal.int Go.IntKind.i64 (Go.Abs.Ship.fewestN bs st fl)) :: ((Go.Abs.AVal.bool Bool.false) :: []))) [])))
          ((k (Go.Abs.AVal.tup ((Go.Abs.AVal.int Go.IntKind.i64 (Go.Abs.Ship.fewestN bs st fl)) :: ((Go.Abs.AVal.bool Bool.false) :: []))) [])))
         ((k (Go.Abs.AVal.tup ((Go.Abs.AVal.int Go.IntKind.i64 (Go.Abs.Ship.fewestN bs st fl)) :: ((Go.Abs.AVal.bool Bool.false) :: []))) [])))
        ((k (Go.Abs.AVal.tup ((Go.Abs.AVal.int Go.IntKind.i64 (Go.Abs.Ship.fewestN bs st fl)) :: ((Go.Abs.AVal.bool Bool.false) :: []))) []))))
      ((k (Go.Abs.AVal.tup ((Go.Abs.AVal.int Go.IntKind.i64 (Go.Abs.Ship.fewestN bs st fl)) :: ((Go.Abs.AVal.bool Bool.false) :: []))) [])))
     ((k (Go.Abs.AVal.tup ((Go.Abs.AVal.int Go.IntKind.i64 (Go.Abs.Ship.fewestN bs st fl)) :: ((Go.Abs.AVal.bool Bool.false) :: []))) [])))
    ((k (Go.Abs.AVal.tup ((Go.Abs.AVal.int Go.IntKind.i64 (Go.Abs.Ship.fewestN bs st fl)) :: ((Go.Abs.AVal.bool Bool.false) :: []))) [])))
   ((k (Go.Abs.AVal.tup ((Go.Abs.AVal.int Go.IntKind.i64 (Go.Abs.Ship.fewestN bs st fl)) :: ((Go.Abs.AVal.bool Bool.false) :: []))) []))
theorem eq41 (bs : List (Int × Int)) (st fl : Int) (k : AVal → List Cont → Prop) : awpF (envOf [(23, mkC [v23]), (29, mkC [v29]), (27, mkC [v27]), (25, mkC [v25]), (26, mkC [v26]), (31, mkC [v31]), (17, mkC [v17])]) Try.prog kt 41 false Try.f41 (v41.args (bs, st, fl, ())) (v41.conts (bs, st, fl, ())) k = vc41 bs st fl k := by kernel_rfl
theorem tx41 : (Try.f41.body.map Code.textsOk).getD true = true := by kernel_rfl

def vc43 (bs : List (Int × Int)) (st fl : Int) (bys : List Int) (k : AVal → List Cont → Prop) : Prop :=
  Go.Abs.Loop (σ := ((List Int) × (Int × ((List (Int × Int)) × (Int × (Int × ((List Int) × Unit))))))) (fun K5 x5 =>
    br ((decide (x5.2.1 < (((List.length x5.2.2.1) : Nat) : Int))))
     (br ((decide ((((List.length x5.1) : Nat) : Int) > (0 : Int))))
      ((((0 : Int) ≤ x5.2.1) ∧ ((0 : Int) < (((List.length x5.1) : Nat) : Int))) ∧
      ∃ h7 : (((0 : Int) ≤ (HMod.hMod x5.2.1 (((List.length x5.1) : Nat) : Int))) ∧ ((Int.toNat (HMod.hMod x5.2.1 (((List.length x5.1) : Nat) : Int))) < (List.length x5.1))),
      (Go.Abs.fitsK Go.IntKind.i64 (x5.1[(Int.toNat (HMod.hMod x5.2.1 (((List.length x5.1) : Nat) : Int)))]'h7.2)) ∧
      (((0 : Int) ≤ (x5.1[(Int.toNat (HMod.hMod x5.2.1 (((List.length x5.1) : Nat) : Int)))]'h7.2)) ∧ ((0 : Int) < x5.2.2.2.1)) ∧
      (Go.Abs.fitsK Go.IntKind.i64 (x5.2.2.2.1 - (1 : Int))) ∧
      Go.Abs.Loop (σ := ((List Int) × (Int × (Int × (Int × (Int × ((List (Int × Int)) × (Int × (Int × ((List Int) × Unit)))))))))) (fun K8 x8 =>
        br ((decide (x8.2.2.2.2.1 ≥ (0 : Int))))
         ((Go.Abs.fitsK Go.IntKind.i64 (x8.2.2.1 + x8.2.2.2.2.1)) ∧
         (((0 : Int) ≤ (x8.2.2.1 + x8.2.2.2.2.1)) ∧ ((0 : Int) < x8.2.2.2.2.2.2.1)) ∧
         (((List.length ([] : List Int)) + (List.length x8.2.2.2.2.2.2.2.2.1)) ≤ Go.Abs.big) ∧
         (((List.length (([] : List Int) ++ x8.2.2.2.2.2.2.2.2.1)) + (List.length ((HMod.hMod (x8.2.2.1 + x8.2.2.2.2.1) x8.2.2.2.2.2.2.1) :: ([] : List Int)))) ≤ Go.Abs.big) ∧
         (Go.Abs.Ship.v45.p (x8.2.2.2.2.2.1, (((([] : List Int) ++ x8.2.2.2.2.2.2.2.2.1) ++ ((HMod.hMod (x8.2.2.1 + x8.2.2.2.2.1) x8.2.2.2.2.2.2.1) :: ([] : List Int))), ()))) ∧
         br ((Go.Abs.Ship.smoothB x8.2.2.2.2.2.1 ((([] : List Int) ++ x8.2.2.2.2.2.2.2.2.1) ++ ((HMod.hMod (x8.2.2.1 + x8.2.2.2.2.1) x8.2.2.2.2.2.2.1) :: ([] : List Int)))))
          ((Go.Abs.fitsK Go.IntKind.i64 (x8.2.2.2.2.1 - (1 : Int))) ∧
          (K8 (x8.1, (x8.2.1, (x8.2.2.1, ((HMod.hMod (x8.2.2.1 + x8.2.2.2.2.1) x8.2.2.2.2.2.2.1), ((x8.2.2.2.2.1 - (1 : Int)), (x8.2.2.2.2.2.1, (x8.2.2.2.2.2.2.1, (x8.2.2.2.2.2.2.2.1, (x8.2.2.2.2.2.2.2.2.1, ())))))))))))
          ((Go.Abs.fitsK Go.IntKind.i64 (x8.2.2.2.2.1 - (1 : Int))) ∧
          (K8 (x8.1, (x8.2.1, (x8.2.2.1, (x8.2.2.2.1, ((x8.2.2.2.2.1 - (1 : Int)), (x8.2.2.2.2.2.1, (x8.2.2.2.2.2.2.1, (x8.2.2.2.2.2.2.2.1, (x8.2.2.2.2.2.2.2.2.1, ()))))))))))))
         ((((List.length x8.2.2.2.2.2.2.2.2.1) + (List.length (x8.2.2.2.1 :: ([] : List Int)))) ≤ Go.Abs.big) ∧
         (Go.Abs.fitsK Go.IntKind.i64 (x8.2.1 + (1 : Int))) ∧
         (K5 (x8.1, ((x8.2.1 + (1 : Int)), (x8.2.2.2.2.2.1, (x8.2.2.2.2.2.2.1, (x8.2.2.2.2.2.2.2.1, ((x8.2.2.2.2.2.2.2.2.1 ++ (x8.2.2.2.1 :: ([] : List Int))), ()))))))))) ((x5.1, (x5.2.1, ((HMod.hMod (x5.1[(Int.toNat (HMod.hMod x5.2.1 (((List.length x5.1) : Nat) : Int)))]'h7.2) x5.2.2.2.1), ((HMod.hMod (x5.1[(Int.toNat (HMod.hMod x5.2.1 (((List.length x5.1) : Nat) : Int)))]'h7.2) x5.2.2.2.1), ((x5.2.2.2.1 - (1 : Int)), (x5.2.2.1, (x5.2.2.2.1, (x5.2.2.2.2.1, (x5.2.2.2.2.2.1, ())))))))))))
      ((Go.Abs.fitsK Go.IntKind.i64 (x5.2.2.2.1 - (1 : Int))) ∧
      Go.Abs.Loop (σ := ((List Int) × (Int × (Int × (Int × (Int × ((List (Int × Int)) × (Int × (Int × ((List Int) × Unit)))))))))) (fun K7 x7 =>
        br ((decide (x7.2.2.2.2.1 ≥ (0 : Int))))
         ((Go.Abs.fitsK Go.IntKind.i64 (x7.2.2.1 + x7.2.2.2.2.1)) ∧
         (((0 : Int) ≤ (x7.2.2.1 + x7.2.2.2.2.1)) ∧ ((0 : Int) < x7.2.2.2.2.2.2.1)) ∧
         (((List.length ([] : List Int)) + (List.length x7.2.2.2.2.2.2.2.2.1)) ≤ Go.Abs.big) ∧
         (((List.length (([] : List Int) ++ x7.2.2.2.2.2.2.2.2.1)) + (List.length ((HMod.hMod (x7.2.2.1 + x7.2.2.2.2.1) x7.2.2.2.2.2.2.1) :: ([] : List Int)))) ≤ Go.Abs.big) ∧
         (Go.Abs.Ship.v45.p (x7.2.2.2.2.2.1, (((([] : List Int) ++ x7.2.2.2.2.2.2.2.2.1) ++ ((HMod.hMod (x7.2.2.1 + x7.2.2.2.2.1) x7.2.2.2.2.2.2.1) :: ([] : List Int))), ()))) ∧
         br ((Go.Abs.Ship.smoothB x7.2.2.2.2.2.1 ((([] : List Int) ++ x7.2.2.2.2.2.2.2.2.1) ++ ((HMod.hMod (x7.2.2.1 + x7.2.2.2.2.1) x7.2.2.2.2.2.2.1) :: ([] : List Int)))))
          ((Go.Abs.fitsK Go.IntKind.i64 (x7.2.2.2.2.1 - (1 : Int))) ∧
          (K7 (x7.1, (x7.2.1, (x7.2.2.1, ((HMod.hMod (x7.2.2.1 + x7.2.2.2.2.1) x7.2.2.2.2.2.2.1), ((x7.2.2.2.2.1 - (1 : Int)), (x7.2.2.2.2.2.1, (x7.2.2.2.2.2.2.1, (x7.2.2.2.2.2.2.2.1, (x7.2.2.2.2.2.2.2.2.1, ())))))))))))
          ((Go.Abs.fitsK Go.IntKind.i64 (x7.2.2.2.2.1 - (1 : Int))) ∧
          (K7 (x7.1, (x7.2.1, (x7.2.2.1, (x7.2.2.2.1, ((x7.2.2.2.2.1 - (1 : Int)), (x7.2.2.2.2.2.1, (x7.2.2.2.2.2.2.1, (x7.2.2.2.2.2.2.2.1, (x7.2.2.2.2.2.2.2.2.1, ()))))))))))))
         ((((List.length x7.2.2.2.2.2.2.2.2.1) + (List.length (x7.2.2.2.1 :: ([] : List Int)))) ≤ Go.Abs.big) ∧
         (Go.Abs.fitsK Go.IntKind.i64 (x7.2.1 + (1 : Int))) ∧
         (K5 (x7.1, ((x7.2.1 + (1 : Int)), (x7.2.2.2.2.2.1, (x7.2.2.2.2.2.2.1, (x7.2.2.2.2.2.2.2.1, ((x7.2.2.2.2.2.2.2.2.1 ++ (x7.2.2.2.1 :: ([] : List Int))), ()))))))))) ((x5.1, (x5.2.1, ((0 : Int), ((0 : Int), ((x5.2.2.2.1 - (1 : Int)), (x5.2.2.1, (x5.2.2.2.1, (x5.2.2.2.2.1, (x5.2.2.2.2.2.1, ()))))))))))))
     ((k (Go.Abs.AVal.reg 0 Bool.false) ((Go.Abs.Cont.sl (Go.Abs.Ty.int Go.IntKind.i64) x5.2.2.2.2.2.1) :: [])))) ((bys, ((0 : Int), (bs, (st, (fl, (([] : List Int), ())))))))
theorem eq43 (bs : List (Int × Int)) (st fl : Int) (bys : List Int) (k : AVal → List Cont → Prop) : awpF (envOf [(45, mkC [v45])]) Try.prog kt 43 false Try.f43 (v43.args (bs, st, fl, bys, ())) (v43.conts (bs, st, fl, bys, ())) k = vc43 bs st fl bys k := by kernel_rfl
theorem tx43 : (Try.f43.body.map Code.textsOk).getD true = true := by kernel_rfl

end Go.Abs.Ship
end

section
/- The ship's functions keep their contracts: third part: few stacks, boxes that rise. -/
open Go.Proofs
set_option maxRecDepth 100000
set_option linter.unusedVariables false
namespace Go.Abs.Ship

theorem k80 (hG : Good Try.prog (envOf [])) : v80.Kept Try.prog 80 := by
  rintro ⟨bs, st, fl, box, l, clk, ⟨⟩⟩ hpre k hk
  change List (Int × Int) at bs
  change Int at st fl
  change Int at box
  change List (Nat × (Int × Int) × Int) at l
  change Nat at clk
  refine aspec hmix hG Try.func80 tx80 (Eq.mpr (eq80 bs st fl box l clk k) ?_)
  unfold vc80
  exact hk

theorem k82 (hG : Good Try.prog (envOf [])) : v82.Kept Try.prog 82 := by
  rintro ⟨a, b, c, d, ⟨⟩⟩ hpre k hk
  change Int at a b c d
  refine aspec hmix hG Try.func82 tx82 (Eq.mpr (eq82 a b c d k) ?_)
  replace hk : k (.bool (decide (a < c))) [] := hk
  unfold vc82
  exact hk

theorem bestT_take {l : List (Int × Int)} (h0 : 0 < l.length) {i : Nat} (hi : i + 1 < l.length) : bestT (l.take (i + 2)) = if l[i + 1].1 < (bestT (l.take (i + 1))).1 then l[i + 1] else bestT (l.take (i + 1)) := by
  cases l with
  | nil => simp at h0
  | cons a l =>
    have e : (a :: l).take (i + 2) = a :: l.take (i + 1) := rfl
    have e2 : (a :: l).take (i + 1) = a :: l.take i := rfl
    simp only [List.length_cons] at hi
    rw [e, e2, List.take_succ_eq_append_getElem (by omega)]
    simp only [bestT, List.foldl_append, List.foldl_cons, List.foldl_nil, List.getElem_cons_succ]
    rfl
theorem bestT_one {l : List (Int × Int)} (h0 : 0 < l.length) : bestT (l.take 1) = l[0] := by
  cases l with
  | nil => simp at h0
  | cons a l => simp [bestT]

theorem k81 (hG : Good Try.prog (envOf [(82, mkC [v82])])) : v81.Kept Try.prog 81 := by
  rintro ⟨l, ⟨⟩⟩ hpre k hk
  change List (Int × Int) at l
  refine aspec hmix hG Try.func81 tx81 (Eq.mpr (eq81 l k) ?_)
  replace hk : k (.agg [rI (bestP l), rI (bestX l)]) [] := hk
  unfold vc81
  obtain ⟨h0, hl0⟩ := hpre
  have h0 : 0 < l.length := h0
  have hl0 : l.length ≤ 1152921504606846976 := hl0
  refine ⟨⟨by omega, by omega⟩, ⟨by omega, by omega⟩, ?_⟩
  have e1 : (1 : Int).toNat = 1 := rfl
  simp only [e1]
  have hd : (l.drop 1).length = l.length - 1 := by simp
  have e0 : l[(0 : Int).toNat] = bestT (l.take 1) := (bestT_one h0).symm
  rw [e0]
  refine Loop.upto (fun i => (l.drop 1, (((l.drop 1).length : Nat) : Int), (i : Int), 0, 0, (bestT (l.take (i + 1))).1, (bestT (l.take (i + 1))).2, ())) (fun i => True) (l.length - 1) rfl trivial ?_ ?_
  · intro i K hi hp hK
    dsimp only
    rw [br_decide]
    refine ⟨fun _ => ⟨⟨by omega, by omega⟩, trivial, ?_⟩, fun h => absurd hi (by omega)⟩
    simp only [Int.toNat_natCast]
    have hK := hK trivial
    have eg : (l.drop 1)[i]'(by omega) = l[i + 1] := by simp
    rw [bestT_take h0 (by omega)] at hK
    rw [br_decide, eg]
    refine ⟨fun h => ⟨fits64 (by omega) (by omega), ?_⟩, fun h => ⟨fits64 (by omega) (by omega), ?_⟩⟩
    · rw [if_pos h] at hK; exact hK
    · rw [if_neg h] at hK; exact hK
  · intro K hp
    dsimp only
    rw [br_decide]
    refine ⟨fun h => absurd h (by omega), fun _ => ?_⟩
    have e : l.length - 1 + 1 = l.length := by omega
    rw [e, List.take_length]
    exact hk

/-! ### the stack on which a box is put -/
def pickTo (T : List Int) (p : Int) (n : Nat) : Int := (List.range n).foldl (better T p) (-1)
theorem pickTo_succ (T : List Int) (p : Int) (n : Nat) : pickTo T p (n + 1) = better T p (pickTo T p n) n := by
  unfold pickTo
  rw [List.range_succ, List.foldl_append]; rfl
theorem pickTo_range (T : List Int) (p : Int) : ∀ n, -1 ≤ pickTo T p n ∧ pickTo T p n < (n : Int)
  | 0 => by simp [pickTo]
  | n + 1 => by
    have := pickTo_range T p n
    rw [pickTo_succ]
    unfold better
    split <;> omega
def portsTo (bs : List (Int × Int)) (n : Nat) : List Int := ((bs.take n).map (·.1)).foldl portStep []
theorem portsTo_succ {bs : List (Int × Int)} {i : Nat} (h : i < bs.length) : portsTo bs (i + 1) = portStep (portsTo bs i) bs[i].1 := by
  unfold portsTo
  rw [List.take_succ_eq_append_getElem h, List.map_append, List.foldl_append]; rfl
theorem portsTo_len {bs : List (Int × Int)} : ∀ {i : Nat}, i ≤ bs.length → (portsTo bs i).length ≤ i
  | 0, _ => by simp [portsTo]
  | i + 1, h => by
    have := portsTo_len (bs := bs) (i := i) (by omega)
    rw [portsTo_succ (by omega)]
    unfold portStep
    split
    · simp; omega
    · simp; omega

theorem k64 (hG : Good Try.prog (envOf [])) : v64.Kept Try.prog 64 := by
  rintro ⟨bs, ⟨⟩⟩ hpre k hk
  change List (Int × Int) at bs
  refine aspec hmix hG Try.func64 tx64 (Eq.mpr (eq64 bs k) ?_)
  replace hk : k (rI (fewestOf bs)) [] := hk
  unfold vc64
  have hl0 : bs.length ≤ 1000 := hpre
  refine Loop.upto (fun i => (bs, (i : Int), portsTo bs i, ())) (fun i => True) bs.length rfl trivial ?_ ?_
  · intro i K hi hp hK
    dsimp only
    rw [br_decide]
    refine ⟨fun _ => ?_, fun h => absurd hi (by omega)⟩
    try simp only [Int.toNat_natCast]
    have hT := portsTo_len (bs := bs) (i := i) (by omega)
    have hs := portsTo_succ hi
    generalize hTT : portsTo bs i = T at hT hs ⊢
    refine Loop.upto (fun j => (bs, (i : Int), pickTo T bs[i].1 j, (j : Int), T, ())) (fun j => True) T.length rfl trivial ?_ ?_
    · intro j K_j hj hp_j hK_j
      dsimp only
      rw [br_decide]
      refine ⟨fun _ => ?_, fun h => absurd hj (by omega)⟩
      try simp only [Int.toNat_natCast]
      have hK := hK_j trivial
      have hr := pickTo_range T bs[i].1 j
      rw [pickTo_succ] at hK
      generalize pickTo T bs[i].1 j = best at hr hK ⊢
      unfold better at hK
      rw [getD_at hj] at hK
      refine ⟨⟨by omega, by omega⟩, hj, ⟨by omega, by omega⟩, ?_⟩
      rw [br_bt]
      simp only [decide_eq_true_eq, decide_eq_false_iff_not]
      refine ⟨fun h => ?_, fun h => ⟨fits64 (by omega) (by omega), ?_⟩⟩
      · rw [br_false]
        refine ⟨fun h2 => ⟨⟨by omega, by omega⟩, hj, ⟨by omega, by omega⟩, by omega, ?_⟩, fun h2 => ⟨fits64 (by omega) (by omega), ?_⟩⟩
        · rw [getD_at (i := best.toNat) (by omega)] at hK
          rw [br_decide]
          refine ⟨fun h3 => ⟨fits64 (by omega) (by omega), ?_⟩, fun h3 => ⟨fits64 (by omega) (by omega), ?_⟩⟩
          · rw [if_pos ⟨h, .inr h3⟩] at hK; exact hK
          · rw [if_neg (by rintro ⟨_, h4 | h4⟩; exact h2 h4; exact h3 h4)] at hK; exact hK
        · rw [if_pos ⟨h, .inl h2⟩] at hK; exact hK
      · rw [if_neg (fun h4 => h h4.1)] at hK; exact hK
    · intro K_j hp_j
      dsimp only
      rw [br_decide]
      refine ⟨fun h => absurd h (by omega), fun _ => ?_⟩
      have hK := hK trivial
      have hr := pickTo_range T bs[i].1 T.length
      rw [hs] at hK
      unfold portStep at hK
      have e : pickIn T bs[i].1 = pickTo T bs[i].1 T.length := rfl
      rw [e] at hK
      rw [br_decide]
      refine ⟨fun h => ⟨⟨by omega, by omega⟩, by simp [big]; omega, fits64 (by omega) (by omega), ?_⟩, fun h => ⟨⟨by omega, by omega⟩, ⟨by omega, by omega⟩, by omega, fits64 (by omega) (by omega), ?_⟩⟩
      · rw [if_pos h] at hK; exact hK
      · rw [if_neg h] at hK; exact hK
  · intro K hp
    dsimp only
    rw [br_decide]
    refine ⟨fun h => absurd h (by omega), fun _ => ?_⟩
    have e : fewestOf bs = ((portsTo bs bs.length).length : Int) := by unfold fewestOf ports portsTo; rw [List.take_length]
    rwa [e] at hk

/-! ### lists that rise -/
theorem k65 (hG : Good Try.prog (envOf [(59, mkC [v59])])) : v65.Kept Try.prog 65 := by
  rintro ⟨l, n, ⟨⟩⟩ hpre k hk
  change List Int at l
  change Int at n
  refine aspec hmix hG Try.func65 tx65 (Eq.mpr (eq65 l n k) ?_)
  replace hk : k (.bool (isList l n)) [] := hk
  unfold vc65
  obtain ⟨hl0, hn0, hn⟩ := hpre
  have hl0 : l.length ≤ 1152921504606846976 := hl0
  have hn0 : 0 ≤ n := hn0
  have hn : n ≤ 1000 := hn
  refine Loop.intro (fun x => ∃ (i : Nat) (a : Int), x = (n, a, l, ((l.length : Nat) : Int), (i : Int), ()) ∧ i ≤ l.length ∧ 0 ≤ a ∧ isList l n = rises a (l.drop i) n) (fun x => l.length - x.2.2.2.2.1.toNat) ?_ ⟨0, 0, rfl, by omega, by omega, rfl⟩
  rintro x K ⟨i, a, rfl, hi, ha0, he⟩ hK
  dsimp only
  rw [br_decide]
  refine ⟨fun h => ?_, fun h => ?_⟩
  · have hlt : i < l.length := by omega
    rw [List.drop_eq_getElem_cons hlt] at he
    simp only [rises] at he
    refine ⟨⟨by omega, by omega⟩, fits64 (by omega) (by omega), by show (1 : Nat) ≤ big60; decide, ?_⟩
    simp only [Int.toNat_natCast]
    rw [Bool.not_not, anyOut_one]
    refine br_intro (fun h2 => ?_) (fun h2 => ?_)
    · simp only [outOf, decide_eq_true_eq] at h2
      have e : decide (a ≤ l[i] ∧ l[i] < n) = false := by simp; omega
      rw [e, Bool.false_and] at he
      rwa [he] at hk
    · simp only [outOf, decide_eq_false_iff_not] at h2
      have e : decide (a ≤ l[i] ∧ l[i] < n) = true := by simp; omega
      rw [e, Bool.true_and] at he
      refine ⟨fits64 (by omega) (by omega), fits64 (by omega) (by omega), hK _ ⟨i + 1, l[i] + 1, rfl, hlt, by omega, he⟩ ?_⟩
      show l.length - ((i : Int) + 1).toNat < l.length - ((i : Int)).toNat
      omega
  · have e : l.drop i = [] := List.drop_eq_nil_of_le (by omega)
    rw [e] at he
    rw [he] at hk
    exact hk

theorem riseB_iff (bs : List (Int × Int)) : ∀ (s : List Int) (a : Int), riseB bs a s = true ↔ (∀ (h : 0 < s.length), a < pt bs s[0]) ∧ ∀ i (h : i + 1 < s.length), pt bs s[i] < pt bs s[i + 1]
  | [], a => by simp [riseB]
  | x :: s, a => by
    simp only [riseB, Bool.and_eq_true, decide_eq_true_eq, riseB_iff bs s (pt bs x), List.getElem_cons_zero]
    constructor
    · rintro ⟨h1, h2, h3⟩
      refine ⟨fun _ => h1, fun i h => ?_⟩
      cases i with
      | zero => simpa using h2 (by simpa using h)
      | succ i => simpa using h3 i (by simpa using h)
    · rintro ⟨h1, h2⟩
      refine ⟨h1 (by simp), fun h => by simpa using h2 0 (by simpa using h), fun i h => h2 (i + 1) (by simpa using h)⟩

theorem rise_cases (bs : List (Int × Int)) (st fl : Int) (s : List Int) (h : checkLoad bs st fl = 0) : riseErr bs st fl s = if isList s (bs.length : Int) then (if riseB bs 0 s then 0 else 16) else 2 := by
  unfold riseErr
  rw [if_neg (by simp [h])]
  cases isList s (bs.length : Int) <;> cases riseB bs 0 s <;> simp
theorem rise_bad {bs : List (Int × Int)} {st fl : Int} {s : List Int} {e : Int} (h : riseErr bs st fl s = e) (he : e ≠ 0) : riseN bs st fl s = 0 := by
  unfold riseN; rw [if_neg (by rw [h]; exact he)]
theorem isList_in {s : List Int} {n : Int} (h : isList s n = true) {i : Nat} (hi : i < s.length) : 0 ≤ s[i] ∧ s[i] < n := ((isList_iff s n).1 h).1 i hi
theorem ptI {bs : List (Int × Int)} {j : Int} (h0 : 0 ≤ j) (h : j.toNat < bs.length) : bs[j.toNat].1 = pt bs j := by
  rw [← pt_eq h, natI h0]
theorem k25 (hG : Good Try.prog (envOf [(61, mkC [v61]), (65, mkC [v65])])) : v25.Kept Try.prog 25 := by
  rintro ⟨bs, st, fl, s, ⟨⟩⟩ hpre k hk
  change List (Int × Int) at bs
  change Int at st fl
  change List Int at s
  refine aspec hmix hG Try.func25 tx25 (Eq.mpr (eq25 bs st fl s k) ?_)
  replace hk : k (.tup [rI (riseN bs st fl s), rI (riseErr bs st fl s)]) [] := hk
  unfold vc25
  obtain ⟨hb, hl⟩ := hpre
  have hb : bs.length ≤ 16 := hb
  have hl : s.length ≤ 1152921504606846976 := hl
  refine ⟨hb, ?_⟩
  refine br_errs (p := fun e => k (.tup [rI 0, rI e]) []) (fun h => ?_) (fun h => ⟨⟨hl, by show (0 : Int) ≤ ((bs.length : Nat) : Int); omega, by show ((bs.length : Nat) : Int) ≤ 1000; omega⟩, ?_⟩)
  · have e : riseErr bs st fl s = checkLoad bs st fl := by unfold riseErr; rw [if_pos h]
    rw [rise_bad e h, e] at hk
    exact hk
  have ec := rise_cases bs st fl s h
  rw [br_not]
  refine ⟨fun h1 => ?_, fun h1 => ?_⟩
  · rw [h1] at ec
    simp only [Bool.false_eq_true, if_false] at ec
    rw [rise_bad ec (by decide), ec] at hk
    exact hk
  rw [h1] at ec
  simp only [if_true] at ec
  refine Loop.intro (fun x => ∃ (i : Nat) (a : Int), x = (s, bs, st, fl, a, s, ((s.length : Nat) : Int), (i : Int), ()) ∧ i ≤ s.length ∧ riseB bs 0 s = riseB bs a (s.drop i)) (fun x => s.length - x.2.2.2.2.2.2.2.1.toNat) ?_ ⟨0, 0, rfl, by omega, rfl⟩
  rintro x K ⟨i, a, rfl, hi, he⟩ hK
  dsimp only
  rw [br_decide]
  refine ⟨fun h2 => ?_, fun h2 => ?_⟩
  · have hlt : i < s.length := by omega
    rw [List.drop_eq_getElem_cons hlt] at he
    simp only [riseB] at he
    have hin := isList_in h1 hlt
    simp only [Int.toNat_natCast]
    have hlt2 : s[i].toNat < bs.length := by omega
    refine ⟨⟨by omega, by omega⟩, ⟨hin.1, hlt2⟩, ?_⟩
    rw [br_decide, ptI hin.1 hlt2]
    refine ⟨fun h3 => ?_, fun h3 => ⟨⟨hin.1, hlt2⟩, fits64 (by omega) (by omega), ?_⟩⟩
    · have e : decide (a < pt bs s[i]) = false := by simp; omega
      rw [e, Bool.false_and] at he
      rw [he] at ec
      simp only [Bool.false_eq_true, if_false] at ec
      rw [rise_bad ec (by decide), ec] at hk
      exact hk
    · have e : decide (a < pt bs s[i]) = true := by simp; omega
      rw [e, Bool.true_and] at he
      refine hK _ ⟨i + 1, bs[s[i].toNat].1, rfl, hlt, by rw [ptI hin.1 hlt2]; exact he⟩ ?_
      show s.length - ((i : Int) + 1).toNat < s.length - ((i : Int)).toNat
      omega
  · have e : s.drop i = [] := List.drop_eq_nil_of_le (by omega)
    rw [e] at he
    rw [he] at ec
    have ec : riseErr bs st fl s = 0 := ec
    have en : riseN bs st fl s = (s.length : Int) := by unfold riseN; rw [if_pos ec]
    rw [en, ec] at hk
    exact hk

theorem k26 (hG : Good Try.prog (envOf [(22, mkC [v22]), (47, mkC [v47])])) : v26.Kept Try.prog 26 := by
  rintro ⟨bs, st, fl, s, ⟨⟩⟩ hpre k hk
  change List (Int × Int) at bs
  change Int at st fl
  change List Int at s
  refine aspec hmix hG Try.func26 tx26 (Eq.mpr (eq26 bs st fl s k) ?_)
  replace hk : k (.tup [rI (riseN bs st fl s), rI (riseErr bs st fl s)]) [] := hk
  unfold vc26
  obtain ⟨hb, hl⟩ := hpre
  have hb : bs.length ≤ 16 := hb
  have hl : s.length ≤ 1152921504606846976 := hl
  refine ⟨hb, ?_⟩
  rw [br_bne]
  refine ⟨fun h => ⟨hb, ?_⟩, fun h => ⟨hl, ?_⟩⟩
  · have e : riseErr bs st fl s = checkLoad bs st fl := by unfold riseErr; rw [if_pos h]
    rw [rise_bad e h, e] at hk
    exact hk
  have ec := rise_cases bs st fl s h
  rw [br_not]
  refine ⟨fun h1 => ?_, fun h1 => ?_⟩
  · rw [h1] at ec
    simp only [Bool.false_eq_true, if_false] at ec
    rw [rise_bad ec (by decide), ec] at hk
    exact hk
  rw [h1] at ec
  simp only [if_true] at ec
  obtain ⟨f1, f2, f3, f4, f5, f6⟩ := fine_spec h
  have first : ∀ (h : 0 < s.length), 0 < pt bs s[0] := fun h => by
    have hin := isList_in h1 h
    have := box_spec f6 (i := s[0].toNat) (by omega)
    rw [ptI hin.1 (by omega)] at this
    omega
  have good : (∀ i (h : i + 1 < s.length), pt bs s[i] < pt bs s[i + 1]) → k (.tup [rI (s.length : Int), rI 0]) [] := by
    intro hh
    have e : riseB bs 0 s = true := (riseB_iff bs s 0).2 ⟨first, hh⟩
    rw [e] at ec
    have ec : riseErr bs st fl s = 0 := ec
    have en : riseN bs st fl s = (s.length : Int) := by unfold riseN; rw [if_pos ec]
    rw [en, ec] at hk
    exact hk
  rcases Nat.eq_zero_or_pos s.length with h0 | h0
  · refine Loop.intro (fun x => x = (s, 1, bs, st, fl, ())) (fun _ => 0) ?_ rfl
    rintro x K rfl hK
    dsimp only
    rw [br_decide]
    exact ⟨fun h => absurd h (by omega), fun _ => good (fun i h => absurd h (by omega))⟩
  refine Loop.upto (fun i => (s, ((i + 1 : Nat) : Int), bs, st, fl, ())) (fun i => ∀ j (h : j + 1 < s.length), j < i → pt bs s[j] < pt bs s[j + 1]) (s.length - 1) rfl (fun j h h' => absurd h' (Nat.not_lt_zero _)) ?_ ?_
  · intro i K hi hp hK
    dsimp only
    rw [br_decide]
    refine ⟨fun _ => ?_, fun h => absurd hi (by omega)⟩
    have a1 := isList_in h1 (i := i + 1) (by omega)
    have a0 := isList_in h1 (i := i) (by omega)
    have e1 : ((i + 1 : Nat) : Int) - 1 = (i : Int) := by omega
    simp only [e1, Int.toNat_natCast]
    refine ⟨⟨by omega, by omega⟩, ⟨a1.1, by omega⟩, fits64 (by omega) (by omega), ⟨by omega, by omega⟩, ⟨a0.1, by omega⟩, ?_⟩
    rw [br_decide, ptI a1.1 (by omega), ptI a0.1 (by omega)]
    refine ⟨fun h3 => ?_, fun h3 => ⟨fits64 (by omega) (by omega), hK (fun j hj hji => ?_)⟩⟩
    · have e : riseB bs 0 s = false := by
        rw [← Bool.not_eq_true, riseB_iff]
        rintro ⟨_, hh⟩
        have := hh i (by omega)
        omega
      rw [e] at ec
      simp only [Bool.false_eq_true, if_false] at ec
      rw [rise_bad ec (by decide), ec] at hk
      exact hk
    · rcases Nat.lt_or_ge j i with h4 | h4
      · exact hp j hj h4
      · obtain rfl : j = i := by omega
        omega
  · intro K hp
    dsimp only
    rw [br_decide]
    refine ⟨fun h => absurd h (by omega), fun _ => good (fun i h => hp i h (by omega))⟩
end Go.Abs.Ship
end

section
/- Conditions and their equations, printed by a program. -/
open Go.Proofs
set_option maxRecDepth 100000
set_option linter.unusedVariables false
namespace Go.Abs.Ship
def vc62 (bs : List (Int × Int)) (st fl : Int) (l : List Int) (k : AVal → List Cont → Prop) : Prop :=
  Go.Abs.Loop (σ := ((List (Int × Int)) × (Int × (Int × (Int × ((List Int) × (Int × (Int × ((List (Nat × ((Int × Int) × Int))) × (Nat × ((List Int) × Unit))))))))))) (fun K5 x5 =>
    br ((decide (x5.2.2.2.2.2.2.1 < x5.2.2.2.2.2.1)))
     (∃ h7 : (((0 : Int) ≤ x5.2.2.2.2.2.2.1) ∧ ((Int.toNat x5.2.2.2.2.2.2.1) < (List.length x5.2.2.2.2.1))),
     (Go.Abs.Ship.v80.p (x5.1, (x5.2.1, (x5.2.2.1, ((x5.2.2.2.2.1[(Int.toNat x5.2.2.2.2.2.2.1)]'h7.2), (x5.2.2.2.2.2.2.2.1, (x5.2.2.2.2.2.2.2.2.1, ()))))))) ∧
     Go.Abs.Loop (σ := ((List (Int × Int)) × (Int × (Int × (Int × ((List (Int × Int)) × (Int × (Int × (Int × (Int × ((List Int) × (Int × (Int × ((List (Int × Int)) × (Int × (Int × (Int × (Nat × ((List Nat) × (Nat × ((List (Nat × ((Int × Int) × Int))) × (Nat × ((List Int) × ((List (Int × Int)) × Unit)))))))))))))))))))))))) (fun K8 x8 =>
       ((∀ e10 : (Nat × ((Int × Int) × Int)), ((Membership.mem x8.2.2.2.2.2.2.2.2.2.2.2.2.2.2.2.2.2.2.2.1 e10) → (e10.1 < x8.2.2.2.2.2.2.2.2.2.2.2.2.2.2.2.2.1))) ∧ (x8.2.2.2.2.2.2.2.2.2.2.2.2.2.2.2.2.1 ≤ x8.2.2.2.2.2.2.2.2.2.2.2.2.2.2.2.2.2.2.1)) ∧
       (∀ b10 : ((Go.Abs.mleft (Go.Abs.Ty.pair (Go.Abs.Ty.int Go.IntKind.i64) (Go.Abs.Ty.int Go.IntKind.i64)) x8.2.2.2.2.2.2.2.2.2.2.2.2.2.2.2.2.2.2.2.1 x8.2.2.2.2.2.2.2.2.2.2.2.2.2.2.2.2.2.1) = ([] : List (Nat × ((Int × Int) × Int)))),
        br (((((List.length x8.2.2.2.2.2.2.2.2.2.2.2.2.2.2.2.2.2.2.2.2.2.2.1) : Nat) : Int) == (0 : Int)))
         ((Go.Abs.fitsK Go.IntKind.i64 (x8.2.2.2.2.2.2.2.1 + (1 : Int))) ∧
         ∃ h11 : (((0 : Int) ≤ x8.2.2.2.2.2.2.2.2.1) ∧ ((Int.toNat x8.2.2.2.2.2.2.2.2.1) < (List.length x8.2.2.2.2.1))),
         (((List.length x8.2.2.2.2.2.2.2.2.2.2.2.2.2.2.2.2.2.2.2.2.2.1) + (List.length (x8.2.2.2.2.2.2.2.1 :: ([] : List Int)))) ≤ Go.Abs.big) ∧
         (Go.Abs.fitsK Go.IntKind.i64 (x8.2.2.2.2.2.2.2.2.2.2.2.1 + (1 : Int))) ∧
         (K5 (x8.2.2.2.2.1, (x8.2.2.2.2.2.1, (x8.2.2.2.2.2.2.1, ((x8.2.2.2.2.2.2.2.1 + (1 : Int)), (x8.2.2.2.2.2.2.2.2.2.1, (x8.2.2.2.2.2.2.2.2.2.2.1, ((x8.2.2.2.2.2.2.2.2.2.2.2.1 + (1 : Int)), ((Go.Abs.mput (Go.Abs.Ty.pair (Go.Abs.Ty.int Go.IntKind.i64) (Go.Abs.Ty.int Go.IntKind.i64)) x8.2.2.2.2.2.2.2.2.2.2.2.2.2.2.2.2.2.2.2.1 x8.2.2.2.2.2.2.2.2.2.2.2.2.2.2.2.2.2.2.2.2.1 ((x8.2.2.2.2.1[(Int.toNat x8.2.2.2.2.2.2.2.2.1)]'h11.2).1, x8.2.2.2.2.2.2.2.2.1) x8.2.2.2.2.2.2.2.1), ((Go.Abs.mclk (Go.Abs.Ty.pair (Go.Abs.Ty.int Go.IntKind.i64) (Go.Abs.Ty.int Go.IntKind.i64)) x8.2.2.2.2.2.2.2.2.2.2.2.2.2.2.2.2.2.2.2.1 x8.2.2.2.2.2.2.2.2.2.2.2.2.2.2.2.2.2.2.2.2.1 ((x8.2.2.2.2.1[(Int.toNat x8.2.2.2.2.2.2.2.2.1)]'h11.2).1, x8.2.2.2.2.2.2.2.2.1)), ((x8.2.2.2.2.2.2.2.2.2.2.2.2.2.2.2.2.2.2.2.2.2.1 ++ (x8.2.2.2.2.2.2.2.1 :: ([] : List Int))), ()))))))))))))
         ((Go.Abs.Ship.v81.p (x8.2.2.2.2.2.2.2.2.2.2.2.2.2.2.2.2.2.2.2.2.2.2.1, ())) ∧
         ∃ h11 : (((0 : Int) ≤ x8.2.2.2.2.2.2.2.2.1) ∧ ((Int.toNat x8.2.2.2.2.2.2.2.2.1) < (List.length x8.2.2.2.2.1))),
         (((List.length x8.2.2.2.2.2.2.2.2.2.2.2.2.2.2.2.2.2.2.2.2.2.1) + (List.length ((Go.Abs.mval (Go.Abs.Ty.pair (Go.Abs.Ty.int Go.IntKind.i64) (Go.Abs.Ty.int Go.IntKind.i64)) x8.2.2.2.2.2.2.2.2.2.2.2.2.2.2.2.2.2.2.2.1 ((Go.Abs.Ship.bestP x8.2.2.2.2.2.2.2.2.2.2.2.2.2.2.2.2.2.2.2.2.2.2.1), (Go.Abs.Ship.bestX x8.2.2.2.2.2.2.2.2.2.2.2.2.2.2.2.2.2.2.2.2.2.2.1))) :: ([] : List Int)))) ≤ Go.Abs.big) ∧
         (Go.Abs.fitsK Go.IntKind.i64 (x8.2.2.2.2.2.2.2.2.2.2.2.1 + (1 : Int))) ∧
         (K5 (x8.2.2.2.2.1, (x8.2.2.2.2.2.1, (x8.2.2.2.2.2.2.1, (x8.2.2.2.2.2.2.2.1, (x8.2.2.2.2.2.2.2.2.2.1, (x8.2.2.2.2.2.2.2.2.2.2.1, ((x8.2.2.2.2.2.2.2.2.2.2.2.1 + (1 : Int)), ((Go.Abs.mput (Go.Abs.Ty.pair (Go.Abs.Ty.int Go.IntKind.i64) (Go.Abs.Ty.int Go.IntKind.i64)) (Go.Abs.mdel (Go.Abs.Ty.pair (Go.Abs.Ty.int Go.IntKind.i64) (Go.Abs.Ty.int Go.IntKind.i64)) ((Go.Abs.Ship.bestP x8.2.2.2.2.2.2.2.2.2.2.2.2.2.2.2.2.2.2.2.2.2.2.1), (Go.Abs.Ship.bestX x8.2.2.2.2.2.2.2.2.2.2.2.2.2.2.2.2.2.2.2.2.2.2.1)) x8.2.2.2.2.2.2.2.2.2.2.2.2.2.2.2.2.2.2.2.1) x8.2.2.2.2.2.2.2.2.2.2.2.2.2.2.2.2.2.2.2.2.1 ((x8.2.2.2.2.1[(Int.toNat x8.2.2.2.2.2.2.2.2.1)]'h11.2).1, x8.2.2.2.2.2.2.2.2.1) (Go.Abs.mval (Go.Abs.Ty.pair (Go.Abs.Ty.int Go.IntKind.i64) (Go.Abs.Ty.int Go.IntKind.i64)) x8.2.2.2.2.2.2.2.2.2.2.2.2.2.2.2.2.2.2.2.1 ((Go.Abs.Ship.bestP x8.2.2.2.2.2.2.2.2.2.2.2.2.2.2.2.2.2.2.2.2.2.2.1), (Go.Abs.Ship.bestX x8.2.2.2.2.2.2.2.2.2.2.2.2.2.2.2.2.2.2.2.2.2.2.1)))), ((Go.Abs.mclk (Go.Abs.Ty.pair (Go.Abs.Ty.int Go.IntKind.i64) (Go.Abs.Ty.int Go.IntKind.i64)) (Go.Abs.mdel (Go.Abs.Ty.pair (Go.Abs.Ty.int Go.IntKind.i64) (Go.Abs.Ty.int Go.IntKind.i64)) ((Go.Abs.Ship.bestP x8.2.2.2.2.2.2.2.2.2.2.2.2.2.2.2.2.2.2.2.2.2.2.1), (Go.Abs.Ship.bestX x8.2.2.2.2.2.2.2.2.2.2.2.2.2.2.2.2.2.2.2.2.2.2.1)) x8.2.2.2.2.2.2.2.2.2.2.2.2.2.2.2.2.2.2.2.1) x8.2.2.2.2.2.2.2.2.2.2.2.2.2.2.2.2.2.2.2.2.1 ((x8.2.2.2.2.1[(Int.toNat x8.2.2.2.2.2.2.2.2.1)]'h11.2).1, x8.2.2.2.2.2.2.2.2.1)), ((x8.2.2.2.2.2.2.2.2.2.2.2.2.2.2.2.2.2.2.2.2.2.1 ++ ((Go.Abs.mval (Go.Abs.Ty.pair (Go.Abs.Ty.int Go.IntKind.i64) (Go.Abs.Ty.int Go.IntKind.i64)) x8.2.2.2.2.2.2.2.2.2.2.2.2.2.2.2.2.2.2.2.1 ((Go.Abs.Ship.bestP x8.2.2.2.2.2.2.2.2.2.2.2.2.2.2.2.2.2.2.2.2.2.2.1), (Go.Abs.Ship.bestX x8.2.2.2.2.2.2.2.2.2.2.2.2.2.2.2.2.2.2.2.2.2.2.1))) :: ([] : List Int))), ()))))))))))))) ∧
       ∀ b10 : (Nat × ((Int × Int) × Int)),
       ∀ b11 : (Membership.mem (Go.Abs.mleft (Go.Abs.Ty.pair (Go.Abs.Ty.int Go.IntKind.i64) (Go.Abs.Ty.int Go.IntKind.i64)) x8.2.2.2.2.2.2.2.2.2.2.2.2.2.2.2.2.2.2.2.1 x8.2.2.2.2.2.2.2.2.2.2.2.2.2.2.2.2.2.1) b10),
       ((x8.2.2.2.2.2.2.2.2.2.2.2.2.2.2.2.2.2.2.2.2.1 = x8.2.2.2.2.2.2.2.2.2.2.2.2.2.2.2.2.2.2.2.2.1) ∧ (List.Nodup (List.map (fun e12 => e12.1) x8.2.2.2.2.2.2.2.2.2.2.2.2.2.2.2.2.2.2.2.1))) ∧
       ∃ h12 : (Nat × ((Int × Int) × Int)),
       ((Membership.mem x8.2.2.2.2.2.2.2.2.2.2.2.2.2.2.2.2.2.2.2.1 h12) ∧ ((List.getLast? (x8.2.2.2.2.2.2.2.2.2.2.2.2.2.2.2.2.2.1 ++ (b10.1 :: []))) = (Option.some h12.1))) ∧
       (Go.Abs.Ship.v83.p (x8.1, (x8.2.1, (x8.2.2.1, (x8.2.2.2.1, (h12.2.1.2, ())))))) ∧
       br (((Go.Abs.Ship.liesOn x8.1 x8.2.2.2.1 h12.2.1.2) == Bool.true))
        ((((List.length x8.2.2.2.2.2.2.2.2.2.2.2.2.2.2.2.2.2.2.2.2.2.2.1) + (List.length ((h12.2.1.1, h12.2.1.2) :: ([] : List (Int × Int))))) ≤ Go.Abs.big) ∧
        (K8 (x8.1, (x8.2.1, (x8.2.2.1, (x8.2.2.2.1, (x8.2.2.2.2.1, (x8.2.2.2.2.2.1, (x8.2.2.2.2.2.2.1, (x8.2.2.2.2.2.2.2.1, (x8.2.2.2.2.2.2.2.2.1, (x8.2.2.2.2.2.2.2.2.2.1, (x8.2.2.2.2.2.2.2.2.2.2.1, (x8.2.2.2.2.2.2.2.2.2.2.2.1, (x8.2.2.2.2.2.2.2.2.2.2.2.2.1, (x8.2.2.2.2.2.2.2.2.2.2.2.2.2.1, (x8.2.2.2.2.2.2.2.2.2.2.2.2.2.2.1, (x8.2.2.2.2.2.2.2.2.2.2.2.2.2.2.2.1, (x8.2.2.2.2.2.2.2.2.2.2.2.2.2.2.2.2.1, ((x8.2.2.2.2.2.2.2.2.2.2.2.2.2.2.2.2.2.1 ++ (b10.1 :: [])), (x8.2.2.2.2.2.2.2.2.2.2.2.2.2.2.2.2.2.2.2.2.1, (x8.2.2.2.2.2.2.2.2.2.2.2.2.2.2.2.2.2.2.2.1, (x8.2.2.2.2.2.2.2.2.2.2.2.2.2.2.2.2.2.2.2.2.1, (x8.2.2.2.2.2.2.2.2.2.2.2.2.2.2.2.2.2.2.2.2.2.1, ((x8.2.2.2.2.2.2.2.2.2.2.2.2.2.2.2.2.2.2.2.2.2.2.1 ++ ((h12.2.1.1, h12.2.1.2) :: ([] : List (Int × Int)))), ())))))))))))))))))))))))))
        ((K8 (x8.1, (x8.2.1, (x8.2.2.1, (x8.2.2.2.1, (x8.2.2.2.2.1, (x8.2.2.2.2.2.1, (x8.2.2.2.2.2.2.1, (x8.2.2.2.2.2.2.2.1, (x8.2.2.2.2.2.2.2.2.1, (x8.2.2.2.2.2.2.2.2.2.1, (x8.2.2.2.2.2.2.2.2.2.2.1, (x8.2.2.2.2.2.2.2.2.2.2.2.1, (x8.2.2.2.2.2.2.2.2.2.2.2.2.1, (x8.2.2.2.2.2.2.2.2.2.2.2.2.2.1, (x8.2.2.2.2.2.2.2.2.2.2.2.2.2.2.1, (x8.2.2.2.2.2.2.2.2.2.2.2.2.2.2.2.1, (x8.2.2.2.2.2.2.2.2.2.2.2.2.2.2.2.2.1, ((x8.2.2.2.2.2.2.2.2.2.2.2.2.2.2.2.2.2.1 ++ (b10.1 :: [])), (x8.2.2.2.2.2.2.2.2.2.2.2.2.2.2.2.2.2.2.2.2.1, (x8.2.2.2.2.2.2.2.2.2.2.2.2.2.2.2.2.2.2.2.1, (x8.2.2.2.2.2.2.2.2.2.2.2.2.2.2.2.2.2.2.2.2.1, (x8.2.2.2.2.2.2.2.2.2.2.2.2.2.2.2.2.2.2.2.2.2.1, (x8.2.2.2.2.2.2.2.2.2.2.2.2.2.2.2.2.2.2.2.2.2.2.1, ())))))))))))))))))))))))))) ((x5.1, (x5.2.1, (x5.2.2.1, ((x5.2.2.2.2.1[(Int.toNat x5.2.2.2.2.2.2.1)]'h7.2), (x5.1, (x5.2.1, (x5.2.2.1, (x5.2.2.2.1, ((x5.2.2.2.2.1[(Int.toNat x5.2.2.2.2.2.2.1)]'h7.2), (x5.2.2.2.2.1, (x5.2.2.2.2.2.1, (x5.2.2.2.2.2.2.1, (x5.1, (x5.2.1, (x5.2.2.1, ((x5.2.2.2.2.1[(Int.toNat x5.2.2.2.2.2.2.1)]'h7.2), (x5.2.2.2.2.2.2.2.2.1, ([], (x5.2.2.2.2.2.2.2.2.1, (x5.2.2.2.2.2.2.2.1, (x5.2.2.2.2.2.2.2.2.1, (x5.2.2.2.2.2.2.2.2.2.1, (([] : List (Int × Int)), ())))))))))))))))))))))))))
     ((k (Go.Abs.AVal.tup ((Go.Abs.AVal.reg 0 Bool.false) :: ((Go.Abs.AVal.int Go.IntKind.i64 x5.2.2.2.1) :: []))) ((Go.Abs.Cont.sl (Go.Abs.Ty.int Go.IntKind.i64) x5.2.2.2.2.2.2.2.2.2.1) :: [])))) ((bs, (st, (fl, ((0 : Int), (l, ((((List.length l) : Nat) : Int), ((0 : Int), (([] : List (Nat × ((Int × Int) × Int))), ((0 : Nat), (([] : List Int), ())))))))))))
theorem eq62 (bs : List (Int × Int)) (st fl : Int) (l : List Int) (k : AVal → List Cont → Prop) : awpF (envOf [(80, mkC [v80]), (81, mkC [v81]), (83, mkC [v83])]) Try.prog kt 62 false Try.f62 (v62.args (bs, st, fl, l, ())) (v62.conts (bs, st, fl, l, ())) k = vc62 bs st fl l k := by kernel_rfl
theorem tx62 : (Try.f62.body.map Code.textsOk).getD true = true := by kernel_rfl

end Go.Abs.Ship
end

section
/- The ship's functions keep their contracts: few stacks. -/
open Go.Proofs
set_option maxRecDepth 100000
set_option linter.unusedVariables false
namespace Go.Abs.Ship

/-! ### which stack is chosen -/
theorem pickTo_spec (T : List Int) (p : Int) : ∀ n, n ≤ T.length → (pickTo T p n < 0 ∧ ∀ k, k < n → T.getD k 0 < p) ∨ (∃ r : Nat, pickTo T p n = (r : Int) ∧ r < n ∧ p ≤ T.getD r 0 ∧ ∀ k, k < n → p ≤ T.getD k 0 → T.getD r 0 ≤ T.getD k 0)
  | 0, _ => .inl ⟨by simp [pickTo], fun k h => absurd h (Nat.not_lt_zero _)⟩
  | n + 1, hn => by
    rw [pickTo_succ]
    rcases pickTo_spec T p n (by omega) with ⟨h1, h2⟩ | ⟨r, h1, h2, h3, h4⟩
    · by_cases h : p ≤ T.getD n 0
      · right
        refine ⟨n, ?_, by omega, h, fun k hk hp => ?_⟩
        · unfold better; rw [if_pos ⟨h, .inl h1⟩]
        · rcases Nat.lt_or_ge k n with h5 | h5
          · have := h2 k h5; omega
          · obtain rfl : k = n := by omega
            exact Int.le_refl _
      · left
        refine ⟨?_, fun k hk => ?_⟩
        · unfold better; rw [if_neg (fun h5 => h h5.1)]; exact h1
        · rcases Nat.lt_or_ge k n with h5 | h5
          · exact h2 k h5
          · obtain rfl : k = n := by omega
            omega
    · right
      unfold better
      rw [h1]
      by_cases h : p ≤ T.getD n 0 ∧ T.getD n 0 < T.getD r 0
      · rw [if_pos ⟨h.1, .inr (by simpa using h.2)⟩]
        refine ⟨n, rfl, by omega, h.1, fun k hk hp => ?_⟩
        rcases Nat.lt_or_ge k n with h5 | h5
        · have := h4 k h5 hp; omega
        · obtain rfl : k = n := by omega
          exact Int.le_refl _
      · rw [if_neg (by
          rintro ⟨h5, h6 | h6⟩
          · omega
          · exact h ⟨h5, by simpa using h6⟩)]
        refine ⟨r, rfl, by omega, h3, fun k hk hp => ?_⟩
        rcases Nat.lt_or_ge k n with h5 | h5
        · exact h4 k h5 hp
        · obtain rfl : k = n := by omega
          omega

theorem pick_spec (bs : List (Int × Int)) (T : List Int) (i : Int) : (pick bs T i < 0 ∧ ∀ k (h : k < T.length), pt bs T[k] < pt bs i) ∨ (∃ r : Nat, ∃ h : r < T.length, pick bs T i = (r : Int) ∧ pt bs i ≤ pt bs T[r] ∧ ∀ k (hk : k < T.length), pt bs i ≤ pt bs T[k] → pt bs T[r] ≤ pt bs T[k]) := by
  have hl : (T.map (pt bs)).length = T.length := by simp
  have e : ∀ k (h : k < T.length), (T.map (pt bs)).getD k 0 = pt bs T[k] := fun k h => by rw [getD_at (by omega)]; simp
  have := pickTo_spec (T.map (pt bs)) (pt bs i) (T.map (pt bs)).length (Nat.le_refl _)
  rw [hl] at this
  unfold pick pickIn
  rw [hl]
  rcases this with ⟨h1, h2⟩ | ⟨r, h1, h2, h3, h4⟩
  · exact .inl ⟨h1, fun k h => by rw [← e k h]; exact h2 k h⟩
  · refine .inr ⟨r, h2, h1, by rw [← e r h2]; exact h3, fun k hk h => ?_⟩
    rw [← e r h2, ← e k hk]
    exact h4 k hk (by rw [e k hk]; exact h)

theorem bestT_mem : ∀ (l : List (Int × Int)), 0 < l.length → bestT l ∈ l
  | a :: l, _ => by
    have : ∀ (l : List (Int × Int)) (a : Int × Int), l.foldl (fun o x => if x.1 < o.1 then x else o) a = a ∨ l.foldl (fun o x => if x.1 < o.1 then x else o) a ∈ l := by
      intro l
      induction l with
      | nil => intro a; exact .inl rfl
      | cons b l ih =>
        intro a
        simp only [List.foldl_cons]
        rcases ih (if b.1 < a.1 then b else a) with h | h
        · rw [h]
          split
          · right; simp
          · left; rfl
        · right; exact List.mem_cons_of_mem _ h
    rcases this l a with h | h
    · show l.foldl _ a ∈ _
      rw [h]; simp
    · exact List.mem_cons_of_mem _ h
theorem bestT_le : ∀ (l : List (Int × Int)), ∀ x ∈ l, (bestT l).1 ≤ x.1
  | a :: l, x, hx => by
    have : ∀ (l : List (Int × Int)) (a : Int × Int), (l.foldl (fun o x => if x.1 < o.1 then x else o) a).1 ≤ a.1 ∧ ∀ x ∈ l, (l.foldl (fun o x => if x.1 < o.1 then x else o) a).1 ≤ x.1 := by
      intro l
      induction l with
      | nil => intro a; exact ⟨Int.le_refl _, fun x h => by cases h⟩
      | cons b l ih =>
        intro a
        simp only [List.foldl_cons]
        have h := ih (if b.1 < a.1 then b else a)
        have h1 : (if b.1 < a.1 then b else a).1 ≤ a.1 ∧ (if b.1 < a.1 then b else a).1 ≤ b.1 := by split <;> omega
        refine ⟨by omega, fun x hx => ?_⟩
        rcases List.mem_cons.1 hx with rfl | hx
        · omega
        · exact h.2 x hx
    have h := this l a
    show (l.foldl _ a).1 ≤ _
    rcases List.mem_cons.1 hx with rfl | hx
    · exact h.1
    · exact h.2 x hx

/-- A box's key. -/
def ky (bs : List (Int × Int)) (i : Int) : Int × Int := (pt bs i, i)
theorem ky_fst (bs : List (Int × Int)) (i : Int) : (ky bs i).1 = pt bs i := rfl
theorem ky_snd (bs : List (Int × Int)) (i : Int) : (ky bs i).2 = i := rfl
abbrev ML := List (Nat × (Int × Int) × Int)
def pmat (m : ML) (x : Int × Int) : Option Int := mat tB m x
def pput (m : ML) (clk : Nat) (x : Int × Int) (v : Int) : ML := mput tB m clk x v
def pclk (m : ML) (clk : Nat) (x : Int × Int) : Nat := mclk tB m clk x
def pdel (x : Int × Int) (m : ML) : ML := mdel tB x m
theorem pput_same (m : ML) (clk : Nat) (x : Int × Int) (v : Int) : pmat (pput m clk x v) x = some v := matP_put_same m clk x v
theorem pput_ne (m : ML) (clk : Nat) {x y : Int × Int} (v : Int) (h : y ≠ x) : pmat (pput m clk x v) y = pmat m y := matP_put_ne m clk v h
theorem pdel_same {m : ML} {clk : Nat} (h : MOk tB m clk) (x : Int × Int) : pmat (pdel x m) x = none := matP_del_same x h
theorem pdel_ne (m : ML) {x y : Int × Int} (h : y ≠ x) : pmat (pdel x m) y = pmat m y := matP_del_ne m h
theorem mput_len {t : Ty} (l : MEnts t) (clk : Nat) (x : t.den) (v : Int) : (mput t l clk x v).length ≤ l.length + 1 := by
  have : ∀ l : MEnts t, (mputL t x v l).length = l.length := by
    intro l
    induction l with
    | nil => rfl
    | cons e l ih => unfold mputL; split <;> simp [ih]
  unfold mput
  split
  · rw [this]; omega
  · simp
theorem pput_len (m : ML) (clk : Nat) (x : Int × Int) (v : Int) : (pput m clk x v).length ≤ m.length + 1 := mput_len (t := tB) m clk x v
theorem ky_pt {bs : List (Int × Int)} {a b : Int} (h : ky bs a = ky bs b) : pt bs a = pt bs b := by
  have h2 : (ky bs a).1 = (ky bs b).1 := by rw [h]
  exact h2
theorem pdel_len (m : ML) (x : Int × Int) : (pdel x m).length ≤ m.length := (mdel_sub (t := tB) x m).length_le

/-- The map of topmost boxes. -/
structure TMap (bs : List (Int × Int)) (T : List Int) (m : ML) (clk j : Nat) : Prop where
  ok : MOk tB m clk
  at_ : ∀ (x : Int × Int) (v : Int), pmat m x = some v ↔ ∃ u : Nat, v = (u : Int) ∧ ∃ h : u < T.length, x = ky bs T[u]
  apart : ∀ a b (ha : a < T.length) (hb : b < T.length), pt bs T[a] = pt bs T[b] → a = b
  inb : ∀ x ∈ T, 0 ≤ x ∧ x < (bs.length : Int)
  len : m.length ≤ j

theorem TMap.more {bs : List (Int × Int)} {T : List Int} {m : ML} {clk j : Nat} (h : TMap bs T m clk j) {i : Int} (hi : 0 ≤ i ∧ i < (bs.length : Int)) (hno : ∀ k (h : k < T.length), pt bs T[k] < pt bs i) :
    TMap bs (T ++ [i]) (pput m clk (ky bs i) (T.length : Int)) (pclk m clk (ky bs i)) (j + 1) := by
  refine ⟨h.ok.putP _ _, fun x v => ?_, fun a b ha hb e => ?_, fun x hx => ?_, by have := pput_len m clk (ky bs i) (T.length : Int); have := h.len; omega⟩
  · by_cases hx : x = ky bs i
    · subst hx
      rw [pput_same]
      constructor
      · intro e
        cases e
        exact ⟨T.length, rfl, by simp, by simp⟩
      · rintro ⟨u, rfl, hu, e⟩
        rcases Nat.lt_or_ge u T.length with h1 | h1
        · rw [List.getElem_append_left h1] at e
          have := hno u h1
          have e2 := ky_pt e
          omega
        · have : u = T.length := by simp at hu; omega
          rw [this]
    · rw [pput_ne _ _ _ hx, h.at_]
      constructor
      · rintro ⟨u, rfl, hu, e⟩
        exact ⟨u, rfl, by simp; omega, by rw [List.getElem_append_left hu]; exact e⟩
      · rintro ⟨u, rfl, hu, e⟩
        rcases Nat.lt_or_ge u T.length with h1 | h1
        · rw [List.getElem_append_left h1] at e
          exact ⟨u, rfl, h1, e⟩
        · have : u = T.length := by simp at hu; omega
          subst this
          simp at e
          exact absurd e hx
  · simp only [List.length_append, List.length_cons, List.length_nil] at ha hb
    rcases Nat.lt_or_ge a T.length with h1 | h1 <;> rcases Nat.lt_or_ge b T.length with h2 | h2
    · rw [List.getElem_append_left h1, List.getElem_append_left h2] at e
      exact h.apart a b h1 h2 e
    · obtain rfl : b = T.length := by omega
      rw [List.getElem_append_left h1] at e
      simp at e
      have := hno a h1; omega
    · obtain rfl : a = T.length := by omega
      rw [List.getElem_append_left h2] at e
      simp at e
      have := hno b h2; omega
    · omega
  · rcases List.mem_append.1 hx with hx | hx
    · exact h.inb x hx
    · simp only [List.mem_singleton] at hx; subst hx; exact hi

theorem TMap.turn {bs : List (Int × Int)} {T : List Int} {m : ML} {clk j : Nat} (h : TMap bs T m clk j) {i : Int} (hi : 0 ≤ i ∧ i < (bs.length : Int)) {r : Nat} (hr : r < T.length)
    (h1 : pt bs i ≤ pt bs T[r]) (h2 : ∀ k (hk : k < T.length), pt bs i ≤ pt bs T[k] → pt bs T[r] ≤ pt bs T[k]) :
    TMap bs (T.set r i) (pput (pdel (ky bs T[r]) m) clk (ky bs i) (r : Int)) (pclk (pdel (ky bs T[r]) m) clk (ky bs i)) (j + 1) := by
  have other : ∀ k (hk : k < T.length), k ≠ r → pt bs T[k] ≠ pt bs i := by
    intro k hk hne e
    have := h2 k hk (by omega)
    exact hne (h.apart k r hk hr (by omega))
  refine ⟨(h.ok.delP _).putP _ _, fun x v => ?_, fun a b ha hb e => ?_, fun x hx => ?_, ?_⟩
  · by_cases hx : x = ky bs i
    · subst hx
      rw [pput_same]
      constructor
      · intro e
        cases e
        exact ⟨r, rfl, by simpa using hr, by simp⟩
      · rintro ⟨u, rfl, hu, e⟩
        simp only [List.length_set] at hu
        by_cases hur : r = u
        · rw [hur]
        · rw [List.getElem_set_ne hur] at e
          exact absurd (ky_pt e).symm (other u hu (Ne.symm hur))
    · rw [pput_ne _ _ _ hx]
      by_cases hx2 : x = ky bs T[r]
      · subst hx2
        rw [pdel_same h.ok]
        constructor
        · intro e; cases e
        · rintro ⟨u, rfl, hu, e⟩
          simp only [List.length_set] at hu
          by_cases hur : r = u
          · subst hur
            simp only [List.getElem_set_self] at e
            exact absurd e hx
          · rw [List.getElem_set_ne hur] at e
            exact absurd (h.apart r u hr hu (ky_pt e)) hur
      · rw [pdel_ne _ hx2, h.at_]
        constructor
        · rintro ⟨u, rfl, hu, e⟩
          have hur : r ≠ u := by rintro rfl; exact hx2 e
          exact ⟨u, rfl, by simpa using hu, by rw [List.getElem_set_ne hur]; exact e⟩
        · rintro ⟨u, rfl, hu, e⟩
          simp only [List.length_set] at hu
          by_cases hur : r = u
          · subst hur
            simp only [List.getElem_set_self] at e
            exact absurd e hx
          · rw [List.getElem_set_ne hur] at e
            exact ⟨u, rfl, hu, e⟩
  · simp only [List.length_set] at ha hb
    by_cases har : r = a <;> by_cases hbr : r = b
    · omega
    · subst har
      simp only [List.getElem_set_self, List.getElem_set_ne hbr] at e
      exact absurd e.symm (other b hb (Ne.symm hbr))
    · subst hbr
      simp only [List.getElem_set_self, List.getElem_set_ne har] at e
      exact absurd e (other a ha (Ne.symm har))
    · simp only [List.getElem_set_ne har, List.getElem_set_ne hbr] at e
      exact h.apart a b ha hb e
  · rcases List.mem_or_eq_of_mem_set hx with hx | rfl
    · exact h.inb x hx
    · exact hi
  · have := pput_len (pdel (ky bs T[r]) m) clk (ky bs i) (r : Int)
    have h3 := pdel_len m (ky bs T[r])
    have := h.len
    omega

theorem fewSt_succ (bs : List (Int × Int)) (l : List Int) {j : Nat} (h : j < l.length) : fewSt bs (l.take (j + 1)) = fewStep bs (fewSt bs (l.take j)) l[j] := by
  unfold fewSt
  rw [List.take_succ_eq_append_getElem h, List.foldl_append]; rfl

def pleft (m : ML) (seen : List Nat) : ML := mleft tB m seen
theorem mem_pleft {m : ML} {seen : List Nat} {e : Nat × (Int × Int) × Int} : e ∈ pleft m seen ↔ e ∈ m ∧ e.1 ∉ seen := mem_mleft (t := tB)
theorem pleft_less {m : ML} {seen : List Nat} {e : Nat × (Int × Int) × Int} (he : e ∈ pleft m seen) : (pleft m (seen ++ [e.1])).length < (pleft m seen).length := mleft_less (t := tB) he
theorem pleft_nil {m : ML} {seen : List Nat} (h : pleft m seen = []) {e : Nat × (Int × Int) × Int} (he : e ∈ m) : e.1 ∈ seen := mleft_nil (t := tB) h he
theorem pmat_mem {m : ML} {clk : Nat} (h : MOk tB m clk) {x : Int × Int} {v : Int} : pmat m x = some v ↔ ∃ b, (b, x, v) ∈ m := matP_mem h
/-- What the walk has found so far. -/
structure Found (bs : List (Int × Int)) (i : Int) (m : ML) (seen : List Nat) (can : List (Int × Int)) : Prop where
  mem : ∀ x : Int × Int, x ∈ can ↔ ∃ e ∈ m, e.1 ∈ seen ∧ e.2.1 = x ∧ liesOn bs i x.2 = true
  len : can.length + (pleft m seen).length ≤ m.length

theorem Found.step {bs : List (Int × Int)} {i : Int} {m : ML} {clk : Nat} {seen : List Nat} {can : List (Int × Int)} (hok : MOk tB m clk) (h : Found bs i m seen can) {e : Nat × (Int × Int) × Int} (he : e ∈ pleft m seen) :
    (liesOn bs i e.2.1.2 = true → Found bs i m (seen ++ [e.1]) (can ++ [e.2.1])) ∧ (liesOn bs i e.2.1.2 = false → Found bs i m (seen ++ [e.1]) can) := by
  have hm := (mem_pleft.1 he).1
  have hless := pleft_less he
  have hl := h.len
  have key : ∀ e', e' ∈ m → e'.1 = e.1 → e' = e := fun e' h1 h2 => hok.birth h1 hm h2
  refine ⟨fun hb => ⟨fun x => ?_, by simp; omega⟩, fun hb => ⟨fun x => ?_, by omega⟩⟩
  · rw [List.mem_append, h.mem]
    constructor
    · rintro (⟨e', h1, h2, h3⟩ | h1)
      · exact ⟨e', h1, List.mem_append_left _ h2, h3⟩
      · simp only [List.mem_singleton] at h1; subst h1
        exact ⟨e, hm, by simp, rfl, hb⟩
    · rintro ⟨e', h1, h2, h3, h4⟩
      rcases List.mem_append.1 h2 with h2 | h2
      · exact .inl ⟨e', h1, h2, h3, h4⟩
      · simp only [List.mem_singleton] at h2
        have := key e' h1 h2
        subst this
        exact .inr (by simp [h3])
  · rw [h.mem]
    constructor
    · rintro ⟨e', h1, h2, h3⟩
      exact ⟨e', h1, List.mem_append_left _ h2, h3⟩
    · rintro ⟨e', h1, h2, h3, h4⟩
      rcases List.mem_append.1 h2 with h2 | h2
      · exact ⟨e', h1, h2, h3, h4⟩
      · simp only [List.mem_singleton] at h2
        have := key e' h1 h2
        subst this
        rw [← h3, hb] at h4; cases h4

theorem Found.all {bs : List (Int × Int)} {i : Int} {T : List Int} {m : ML} {clk j : Nat} {seen : List Nat} {can : List (Int × Int)} (hT : TMap bs T m clk j) (h : Found bs i m seen can) (hz : pleft m seen = []) (x : Int × Int) :
    x ∈ can ↔ ∃ u : Nat, ∃ hu : u < T.length, x = ky bs T[u] ∧ pt bs i ≤ pt bs T[u] := by
  rw [h.mem]
  constructor
  · rintro ⟨e, h1, h2, rfl, h4⟩
    obtain ⟨u, _, hu, hx⟩ := (hT.at_ e.2.1 e.2.2).1 ((pmat_mem hT.ok).2 ⟨e.1, h1⟩)
    refine ⟨u, hu, hx, ?_⟩
    simp only [liesOn, decide_eq_true_eq] at h4
    rw [hx, ky_snd] at h4; exact h4
  · rintro ⟨u, hu, hx, hp⟩
    obtain ⟨b, hb⟩ := (pmat_mem hT.ok).1 ((hT.at_ x (u : Int)).2 ⟨u, rfl, hu, hx⟩)
    refine ⟨_, hb, pleft_nil hz hb, rfl, ?_⟩
    simp only [liesOn, decide_eq_true_eq, hx, ky_snd]
    exact hp

theorem k62 (hG : Good Try.prog (envOf [(80, mkC [v80]), (81, mkC [v81]), (83, mkC [v83])])) : v62.Kept Try.prog 62 := by
  rintro ⟨bs, st, fl, l, ⟨⟩⟩ hpre k hk
  change List (Int × Int) at bs
  change Int at st fl
  change List Int at l
  refine aspec hmix hG Try.func62 tx62 (Eq.mpr (eq62 bs st fl l k) ?_)
  unfold vc62
  obtain ⟨hb, hl, ha⟩ := hpre
  have hb : bs.length ≤ 1000 := hb
  have hl : l.length ≤ 1000 := hl
  have ha : ∀ j ∈ l, (0 : Int) ≤ j ∧ j < (bs.length : Int) := ha
  replace hk : k (.tup [.reg 0 false, rI (fewN bs l)]) [.sl (.int .i64) (fewS bs l)] := hk
  refine Loop.intro (fun x => ∃ (j : Nat) (m : ML) (clk : Nat) (T s : List Int), x = (bs, st, fl, ((T.length : Nat) : Int), l, ((l.length : Nat) : Int), (j : Int), m, clk, s, ()) ∧ j ≤ l.length ∧ fewSt bs (l.take j) = (T, s) ∧ T.length ≤ j ∧ s.length = j ∧ TMap bs T m clk j) (fun x => l.length - x.2.2.2.2.2.2.1.toNat) ?_ ⟨0, [], 0, [], [], rfl, by omega, rfl, by simp, rfl, ⟨MOk.nil _, fun x v => ⟨fun h => (by cases (show (none : Option Int) = some v from h)), fun ⟨u, _, hu, _⟩ => (by simp at hu)⟩, fun a b ha => (by simp at ha), fun x hx => (by simp at hx), by simp⟩⟩
  rintro x K ⟨j, m, clk, T, s, rfl, hj, hTs, hT1, hs1, hT⟩ hK
  dsimp only
  rw [br_decide]
  refine ⟨fun h => ?_, fun h => ?_⟩
  · have hlt : j < l.length := by omega
    have hnext := fewSt_succ bs l hlt
    rw [hTs] at hnext
    have hin := ha _ (List.getElem_mem hlt)
    simp only [Int.toNat_natCast]
    refine ⟨⟨by omega, by omega⟩, trivial, ?_⟩
    generalize l[j] = i at hnext hin ⊢
    have hi2 : i.toNat < bs.length := by omega
    refine Loop.intro (fun x => ∃ (seen : List Nat) (can : List (Int × Int)), x = (bs, st, fl, i, bs, st, fl, ((T.length : Nat) : Int), i, l, ((l.length : Nat) : Int), (j : Int), bs, st, fl, i, clk, seen, clk, m, clk, s, can, ()) ∧ Found bs i m seen can) (fun x => (pleft m x.2.2.2.2.2.2.2.2.2.2.2.2.2.2.2.2.2.1).length) ?_ ⟨[], [], rfl, ⟨fun x => by simp, (by show 0 + (List.filter _ m).length ≤ m.length; rw [Nat.zero_add]; exact List.length_filter_le _ _)⟩⟩
    rintro x K2 ⟨seen, can, rfl, hF⟩ hK2
    dsimp only
    refine ⟨⟨fun e he => hT.ok.lt e he, Nat.le_refl _⟩, fun hz => ?_, fun e he => ?_⟩
    · have hall := hF.all hT hz
      have hcl := hF.len
      have hml := hT.len
      rw [br_beq]
      refine ⟨fun h0 => ?_, fun h0 => ?_⟩
      · have hc : can = [] := List.eq_nil_of_length_eq_zero (by omega)
        have hno : ∀ k (h : k < T.length), pt bs T[k] < pt bs i := by
          intro k hk
          rcases Int.lt_or_le (pt bs T[k]) (pt bs i) with h3 | h3
          · exact h3
          · have := (hall (ky bs T[k])).2 ⟨k, hk, rfl, h3⟩
            rw [hc] at this; cases this
        have hp : pick bs T i < 0 := by
          rcases pick_spec bs T i with h3 | ⟨r, hr, h3, h4, _⟩
          · exact h3.1
          · have := hno r hr; omega
        have hst : fewSt bs (l.take (j + 1)) = (T ++ [i], s ++ [(T.length : Int)]) := by
          rw [hnext]; unfold fewStep
          dsimp only
          rw [if_pos hp]
        refine ⟨fits64 (by omega) (by omega), ⟨hin.1, hi2⟩, by simp [big]; omega, fits64 (by omega) (by omega), hK _ ⟨j + 1, pput m clk (ky bs i) (T.length : Int), pclk m clk (ky bs i), T ++ [i], s ++ [(T.length : Int)], ?_, hlt, hst, by simp; omega, by simp; omega, ?_⟩ ?_⟩
        · have eT : (T ++ [i]).length = T.length + 1 := by simp
          rw [ptI hin.1 hi2, eT]; rfl
        · exact hT.more hin hno
        · show l.length - ((j : Int) + 1).toNat < l.length - ((j : Int)).toNat
          omega
      · have hc0 : 0 < can.length := by omega
        obtain ⟨u, hu, hbu, hpu⟩ := (hall (bestT can)).1 (bestT_mem can hc0)
        have hmin : ∀ k (hk : k < T.length), pt bs i ≤ pt bs T[k] → pt bs T[u] ≤ pt bs T[k] := by
          intro k hk hp
          have := bestT_le can _ ((hall (ky bs T[k])).2 ⟨k, hk, rfl, hp⟩)
          rw [hbu] at this; exact this
        have hp : pick bs T i = (u : Int) := by
          rcases pick_spec bs T i with ⟨_, h3⟩ | ⟨r, hr, h3, h4, h5⟩
          · have := h3 u hu; omega
          · have h6 := h5 u hu hpu
            have h7 := hmin r hr h4
            rw [h3, hT.apart r u hr hu (by omega)]
        have hst : fewSt bs (l.take (j + 1)) = (T.set u i, s ++ [(u : Int)]) := by
          rw [hnext]; unfold fewStep
          dsimp only
          rw [if_neg (by omega), hp]; rfl
        have hP : bestP can = pt bs T[u] := by show (bestT can).1 = _; rw [hbu]; rfl
        have hX : bestX can = T[u] := by show (bestT can).2 = _; rw [hbu]; rfl
        have hv : mval tB m (ky bs T[u]) = (u : Int) := matP_val ((hT.at_ _ _).2 ⟨u, rfl, hu, rfl⟩)
        have hv' : mval tB m (pt bs T[u], T[u]) = (u : Int) := hv
        rw [hP, hX, hv']
        refine ⟨⟨hc0, by show can.length ≤ big60; simp only [big60]; omega⟩, ⟨hin.1, hi2⟩, by simp [big]; omega, fits64 (by omega) (by omega), hK _ ⟨j + 1, pput (pdel (ky bs T[u]) m) clk (ky bs i) (u : Int), pclk (pdel (ky bs T[u]) m) clk (ky bs i), T.set u i, s ++ [(u : Int)], ?_, hlt, hst, by simp; omega, by simp; omega, ?_⟩ ?_⟩
        · rw [ptI hin.1 hi2, List.length_set]; rfl
        · exact hT.turn hin hu hpu hmin
        · show l.length - ((j : Int) + 1).toNat < l.length - ((j : Int)).toNat
          omega
    · have hm := (mem_pleft.1 he).1
      obtain ⟨u, _, hu, hx⟩ := (hT.at_ e.2.1 e.2.2).1 ((pmat_mem hT.ok).2 ⟨e.1, hm⟩)
      have hbx : e.2.1.2 = T[u] := congrArg Prod.snd hx
      have hin2 := hT.inb T[u] (List.getElem_mem hu)
      have hcl := hF.len
      have hml := hT.len
      have hstep := hF.step hT.ok he
      have hless := pleft_less he
      refine ⟨⟨by first | rfl | trivial, hT.ok.births⟩, e, ⟨hm, by simp⟩, ⟨⟨hin.1, hin.2⟩, by rw [hbx]; exact hin2⟩, ?_⟩
      rw [br_bt]
      refine ⟨fun h3 => ⟨by simp [big]; omega, hK2 _ ⟨_, _, rfl, hstep.1 h3⟩ hless⟩, fun h3 => hK2 _ ⟨_, _, rfl, hstep.2 h3⟩ hless⟩
  · have e : l.take j = l := List.take_of_length_le (by omega)
    rw [e] at hTs
    have e1 : fewN bs l = ((T.length : Nat) : Int) := by unfold fewN; rw [hTs]
    have e2 : fewS bs l = s := by unfold fewS; rw [hTs]
    rw [e1, e2] at hk
    exact hk
end Go.Abs.Ship
end

section
/- Plain laws of lists by bits, of the order of lists, and of the best list. -/
set_option maxRecDepth 100000
set_option linter.unusedVariables false
namespace Go.Abs.Ship

/-! ### lists in order, by bits -/
theorem listed_mem {b n : Nat} {x : Int} : x ∈ listed b n ↔ ∃ i : Nat, x = (i : Int) ∧ i < n ∧ b.testBit i = true := by
  unfold listed
  simp only [List.mem_map, List.mem_filter, List.mem_range]
  constructor
  · rintro ⟨i, ⟨h1, h2⟩, rfl⟩; exact ⟨i, rfl, h1, h2⟩
  · rintro ⟨i, rfl, h1, h2⟩; exact ⟨i, ⟨h1, h2⟩, rfl⟩
theorem listed_sorted (b n : Nat) : (listed b n).Pairwise (· < ·) := by
  unfold listed
  rw [List.pairwise_map]
  refine List.Pairwise.imp (R := (· < ·)) (fun {a b} h => Int.ofNat_lt.2 h) ?_
  exact List.Pairwise.filter _ (List.pairwise_lt_range)
theorem isList_spec {l : List Int} {n : Int} : isList l n = true ↔ (∀ x ∈ l, 0 ≤ x ∧ x < n) ∧ l.Pairwise (· < ·) := rises_iff n l 0
theorem listed_isList (b n : Nat) : isList (listed b n) (n : Int) = true := by
  refine isList_spec.2 ⟨fun x hx => ?_, listed_sorted b n⟩
  obtain ⟨i, rfl, hi, _⟩ := listed_mem.1 hx
  omega
/-- Two lists in order with the same members are the same. -/
theorem sorted_ext {α : Type} (R : α → α → Prop) (irr : ∀ a, ¬ R a a) (tr : ∀ a b c, R a b → R b c → R a c) : ∀ (l l' : List α), l.Pairwise R → l'.Pairwise R → (∀ x, x ∈ l ↔ x ∈ l') → l = l'
  | [], [], _, _, _ => rfl
  | [], y :: l', _, _, h => by have := (h y).2 (by simp); simp at this
  | x :: l, [], _, _, h => by have := (h x).1 (by simp); simp at this
  | x :: l, y :: l', h1, h2, h => by
    rw [List.pairwise_cons] at h1 h2
    have hxy : x = y := by
      have hx := (h x).1 (by simp)
      have hy := (h y).2 (by simp)
      rcases List.mem_cons.1 hx with e | hx
      · exact e
      · rcases List.mem_cons.1 hy with e | hy
        · exact e.symm
        · exact absurd (tr _ _ _ (h1.1 y hy) (h2.1 x hx)) (irr x)
    subst hxy
    congr 1
    refine sorted_ext R irr tr l l' h1.2 h2.2 (fun z => ?_)
    constructor
    · intro hz
      rcases List.mem_cons.1 ((h z).1 (List.mem_cons_of_mem _ hz)) with e | hz'
      · subst e; exact absurd (h1.1 z hz) (irr z)
      · exact hz'
    · intro hz
      rcases List.mem_cons.1 ((h z).2 (List.mem_cons_of_mem _ hz)) with e | hz'
      · subst e; exact absurd (h2.1 z hz) (irr z)
      · exact hz'
def bitsOf (n : Nat) (p : Nat → Bool) : Nat := (List.range n).foldl (fun b i => if p i then b ||| 2 ^ i else b) 0
theorem bitsOf_succ (n : Nat) (p : Nat → Bool) : bitsOf (n + 1) p = if p n then bitsOf n p ||| 2 ^ n else bitsOf n p := by
  unfold bitsOf
  rw [List.range_succ, List.foldl_append]; rfl
theorem bitsOf_lt (n : Nat) (p : Nat → Bool) : bitsOf n p < 2 ^ n := by
  induction n with
  | zero => simp [bitsOf]
  | succ n ih =>
    have h2 : 2 ^ n < 2 ^ (n + 1) := Nat.pow_lt_pow_right (by omega) (by omega)
    rw [bitsOf_succ]
    split
    · exact Nat.or_lt_two_pow (Nat.lt_trans ih h2) h2
    · omega
theorem bitsOf_test (n : Nat) (p : Nat → Bool) (i : Nat) : (bitsOf n p).testBit i = (decide (i < n) && p i) := by
  induction n with
  | zero => simp [bitsOf]
  | succ n ih =>
    rw [bitsOf_succ]
    by_cases hp : p n = true
    · rw [if_pos hp, Nat.testBit_or, ih, Nat.testBit_two_pow]
      by_cases h : n = i
      · subst h; simp [hp]
      · have : (i < n + 1) ↔ i < n := by omega
        simp [h, this]
    · rw [if_neg hp, ih]
      by_cases h : n = i
      · subst h; simp [hp]
      · have : (i < n + 1) ↔ i < n := by omega
        simp [this]
/-- A list in order is what some bits say. -/
def bitsL (l : List Int) (n : Nat) : Nat := bitsOf n (fun i => decide ((i : Int) ∈ l))
theorem bitsL_lt (l : List Int) (n : Nat) : bitsL l n < 2 ^ n := bitsOf_lt _ _
theorem listed_bitsL {l : List Int} {n : Nat} (h : isList l (n : Int) = true) : listed (bitsL l n) n = l := by
  obtain ⟨h1, h2⟩ := isList_spec.1 h
  refine sorted_ext (· < ·) (fun a => Int.lt_irrefl a) (fun a b c => Int.lt_trans) _ _ (listed_sorted _ _) h2 (fun x => ?_)
  rw [listed_mem]
  constructor
  · rintro ⟨i, rfl, hi, ht⟩
    unfold bitsL at ht
    rw [bitsOf_test] at ht
    simp only [Bool.and_eq_true, decide_eq_true_eq] at ht
    exact ht.2
  · intro hx
    have hb := h1 x hx
    obtain ⟨i, rfl⟩ := Int.eq_ofNat_of_zero_le hb.1
    refine ⟨i, rfl, by omega, ?_⟩
    unfold bitsL
    rw [bitsOf_test]
    simp [hx]; omega

/-! ### the order of lists -/
theorem before_irrefl : ∀ (a : List Int), before a a = false
  | [] => rfl
  | x :: a => by simp [before, before_irrefl a]
theorem before_trans : ∀ (a b c : List Int), before a b = true → before b c = true → before a c = true
  | [], [], _, h, _ => by simp [before] at h
  | [], _ :: _, [], _, h => by simp [before] at h
  | [], _ :: _, _ :: _, _, _ => by simp [before]
  | _ :: _, [], _, h, _ => by simp [before] at h
  | _ :: _, _ :: _, [], _, h => by simp [before] at h
  | x :: a, y :: b, z :: c, h1, h2 => by
    simp only [before] at h1 h2 ⊢
    by_cases e1 : x = y
    · subst e1
      simp only [if_true] at h1
      by_cases e2 : x = z
      · subst e2
        simp only [if_true] at h2 ⊢
        exact before_trans a b c h1 h2
      · rw [if_neg e2] at h2 ⊢; exact h2
    · rw [if_neg e1] at h1
      simp only [decide_eq_true_eq] at h1
      by_cases e2 : y = z
      · subst e2
        rw [if_neg (by omega)]; simpa using h1
      · rw [if_neg e2] at h2
        simp only [decide_eq_true_eq] at h2
        rw [if_neg (by omega)]; simp; omega
theorem before_total : ∀ (a b : List Int), a = b ∨ before a b = true ∨ before b a = true
  | [], [] => .inl rfl
  | [], _ :: _ => .inr (.inl rfl)
  | _ :: _, [] => .inr (.inr rfl)
  | x :: a, y :: b => by
    by_cases e : x = y
    · subst e
      rcases before_total a b with h | h | h
      · exact .inl (by rw [h])
      · exact .inr (.inl (by simp [before, h]))
      · exact .inr (.inr (by simp [before, h]))
    · rcases Int.lt_or_lt_of_ne e with h | h
      · exact .inr (.inl (by simp [before, e, h]))
      · exact .inr (.inr (by simp [before, Ne.symm e, h]))
theorem before_append : ∀ (p a b : List Int), before (p ++ a) (p ++ b) = before a b
  | [], _, _ => rfl
  | x :: p, a, b => by simp [before, before_append p a b]

/-- The best of several. -/
structure Order (bet : List Int → List Int → Bool) : Prop where
  irr : ∀ a, bet a a = false
  tr : ∀ a b c, bet a b = true → bet b c = true → bet a c = true
  tot : ∀ a b, a = b ∨ bet a b = true ∨ bet b a = true
theorem Order.asymm {bet : List Int → List Int → Bool} (h : Order bet) {a b : List Int} (h1 : bet a b = true) : bet b a = false := by
  rw [← Bool.not_eq_true]
  intro h2
  have := h.tr a b a h1 h2
  rw [h.irr] at this; cases this
def selStep (bet : List Int → List Int → Bool) (good : Nat → Bool) (cand : Nat → List Int) (b : List Int) (i : Nat) : List Int := if good i && bet (cand i) b then cand i else b
theorem sel_spec {bet : List Int → List Int → Bool} (hO : Order bet) (good : Nat → Bool) (cand : Nat → List Int) (b0 : List Int) : ∀ n,
    ((List.range n).foldl (selStep bet good cand) b0 = b0 ∨ ∃ i, i < n ∧ good i = true ∧ (List.range n).foldl (selStep bet good cand) b0 = cand i) ∧
    bet b0 ((List.range n).foldl (selStep bet good cand) b0) = false ∧ ∀ i, i < n → good i = true → bet (cand i) ((List.range n).foldl (selStep bet good cand) b0) = false
  | 0 => ⟨.inl rfl, hO.irr _, fun i h => absurd h (Nat.not_lt_zero _)⟩
  | n + 1 => by
    obtain ⟨h1, h2, h3⟩ := sel_spec hO good cand b0 n
    rw [List.range_succ, List.foldl_append]
    simp only [List.foldl_cons, List.foldl_nil]
    generalize (List.range n).foldl (selStep bet good cand) b0 = r at h1 h2 h3 ⊢
    unfold selStep
    by_cases hg : (good n && bet (cand n) r) = true
    · rw [if_pos hg]
      simp only [Bool.and_eq_true] at hg
      have keep : ∀ c, bet c r = false → bet c (cand n) = false := by
        intro c hc
        rw [← Bool.not_eq_true]
        intro hb
        have := hO.tr _ _ _ hb hg.2
        rw [hc] at this; cases this
      refine ⟨.inr ⟨n, by omega, hg.1, rfl⟩, keep _ h2, fun i hi hgi => ?_⟩
      rcases Nat.lt_or_ge i n with h | h
      · exact keep _ (h3 i h hgi)
      · obtain rfl : i = n := by omega
        exact hO.irr _
    · rw [if_neg hg]
      refine ⟨?_, h2, fun i hi hgi => ?_⟩
      · rcases h1 with h1 | ⟨i, hi, h1⟩
        · exact .inl h1
        · exact .inr ⟨i, by omega, h1⟩
      · rcases Nat.lt_or_ge i n with h | h
        · exact h3 i h hgi
        · obtain rfl : i = n := by omega
          rw [← Bool.not_eq_true]
          intro hb
          exact hg (by rw [hgi, hb]; rfl)

def betR (a b : List Int) : Bool := decide (a.length > b.length) || (decide (a.length = b.length) && before a b)
def betL (a b : List Int) : Bool := decide (a.length < b.length) || (decide (a.length = b.length) && before a b)
theorem order_betR : Order betR where
  irr a := by simp [betR, before_irrefl]
  tr a b c h1 h2 := by
    simp only [betR, Bool.or_eq_true, Bool.and_eq_true, decide_eq_true_eq] at *
    rcases h1 with h1 | ⟨h1, h3⟩ <;> rcases h2 with h2 | ⟨h2, h4⟩
    · left; omega
    · left; omega
    · left; omega
    · right; exact ⟨by omega, before_trans _ _ _ h3 h4⟩
  tot a b := by
    simp only [betR, Bool.or_eq_true, Bool.and_eq_true, decide_eq_true_eq]
    rcases Nat.lt_trichotomy a.length b.length with h | h | h
    · exact .inr (.inr (.inl h))
    · rcases before_total a b with e | e | e
      · exact .inl e
      · exact .inr (.inl (.inr ⟨h, e⟩))
      · exact .inr (.inr (.inr ⟨h.symm, e⟩))
    · exact .inr (.inl (.inl h))
theorem order_betL : Order betL where
  irr a := by simp [betL, before_irrefl]
  tr a b c h1 h2 := by
    simp only [betL, Bool.or_eq_true, Bool.and_eq_true, decide_eq_true_eq] at *
    rcases h1 with h1 | ⟨h1, h3⟩ <;> rcases h2 with h2 | ⟨h2, h4⟩
    · left; omega
    · left; omega
    · left; omega
    · right; exact ⟨by omega, before_trans _ _ _ h3 h4⟩
  tot a b := by
    simp only [betL, Bool.or_eq_true, Bool.and_eq_true, decide_eq_true_eq]
    rcases Nat.lt_trichotomy a.length b.length with h | h | h
    · exact .inr (.inl (.inl h))
    · rcases before_total a b with e | e | e
      · exact .inl e
      · exact .inr (.inl (.inr ⟨h, e⟩))
      · exact .inr (.inr (.inr ⟨h.symm, e⟩))
    · exact .inr (.inr (.inl h))

/-! ### the list of the most boxes that rise -/
/-- Boxes, in order, that rise. -/
structure Ris (bs : List (Int × Int)) (l : List Int) : Prop where
  list : isList l (bs.length : Int) = true
  up : riseB bs 0 l = true
theorem riseStep_sel (bs : List (Int × Int)) : riseStep bs = selStep betR (riseBits bs) (fun b => listed b bs.length) := by
  funext b i
  unfold riseStep selStep betR
  have : ((riseBits bs i = true ∧ ((listed i bs.length).length > b.length ∨ (listed i bs.length).length = b.length ∧ before (listed i bs.length) b = true)) ↔ (riseBits bs i && (decide ((listed i bs.length).length > b.length) || decide ((listed i bs.length).length = b.length) && before (listed i bs.length) b)) = true) := by
    simp only [Bool.and_eq_true, Bool.or_eq_true, decide_eq_true_eq]
  by_cases h : riseBits bs i = true ∧ ((listed i bs.length).length > b.length ∨ (listed i bs.length).length = b.length ∧ before (listed i bs.length) b = true)
  · rw [if_pos h, if_pos (this.1 h)]
  · rw [if_neg h, if_neg (fun h2 => h (this.2 h2))]
theorem ris_bits (bs : List (Int × Int)) (b : Nat) : Ris bs (listed b bs.length) ↔ riseBits bs b = true := ⟨fun h => h.up, fun h => ⟨listed_isList _ _, h⟩⟩
theorem ris_nil (bs : List (Int × Int)) : Ris bs [] := ⟨rfl, rfl⟩
theorem risingOf_spec (bs : List (Int × Int)) : Ris bs (risingOf bs) ∧ ∀ l, Ris bs l → betR l (risingOf bs) = false := by
  obtain ⟨h1, h2, h3⟩ := sel_spec order_betR (riseBits bs) (fun b => listed b bs.length) [] (2 ^ bs.length)
  rw [← riseStep_sel] at h1 h2 h3
  refine ⟨?_, fun l hl => ?_⟩
  · rcases h1 with h1 | ⟨i, _, hg, h1⟩
    · unfold risingOf; rw [h1]; exact ris_nil bs
    · unfold risingOf; rw [h1]; exact (ris_bits bs i).2 hg
  · have e := listed_bitsL hl.list
    have := h3 (bitsL l bs.length) (bitsL_lt _ _) ((ris_bits bs _).1 (by rw [e]; exact hl))
    rw [e] at this
    exact this
theorem risingOf_unique {bs : List (Int × Int)} {l : List Int} (h1 : Ris bs l) (h2 : ∀ l', Ris bs l' → betR l' l = false) : l = risingOf bs := by
  obtain ⟨h3, h4⟩ := risingOf_spec bs
  rcases order_betR.tot l (risingOf bs) with h | h | h
  · exact h
  · rw [h4 l h1] at h; cases h
  · rw [h2 _ h3] at h; cases h

/-! ### the fewest boxes that are left -/
theorem leftStep_sel (bs : List (Int × Int)) (st : Int) : leftStep bs st = selStep betL (fun b => leftGood bs st (listed b bs.length)) (fun b => listed b bs.length) := by
  funext b i
  unfold leftStep selStep betL
  have : ((leftGood bs st (listed i bs.length) = true ∧ ((listed i bs.length).length < b.length ∨ (listed i bs.length).length = b.length ∧ before (listed i bs.length) b = true)) ↔ (leftGood bs st (listed i bs.length) && (decide ((listed i bs.length).length < b.length) || decide ((listed i bs.length).length = b.length) && before (listed i bs.length) b)) = true) := by
    simp only [Bool.and_eq_true, Bool.or_eq_true, decide_eq_true_eq]
  by_cases h : leftGood bs st (listed i bs.length) = true ∧ ((listed i bs.length).length < b.length ∨ (listed i bs.length).length = b.length ∧ before (listed i bs.length) b = true)
  · rw [if_pos h, if_pos (this.1 h)]
  · rw [if_neg h, if_neg (fun h2 => h (this.2 h2))]
theorem hasI_iff {l : List Int} {x : Int} : hasI l x = true ↔ x ∈ l := by
  unfold hasI
  rw [List.any_eq_true]
  constructor
  · rintro ⟨y, hy, h⟩; simp only [isI, decide_eq_true_eq] at h; rw [h]; exact hy
  · intro h; exact ⟨x, h, by simp [isI]⟩
theorem allOf_isList (bs : List (Int × Int)) : isList (allOf bs) (bs.length : Int) = true := by
  refine isList_spec.2 ⟨fun x hx => ?_, ?_⟩
  · obtain ⟨i, hi, rfl⟩ := List.mem_map.1 hx
    have := List.mem_range.1 hi
    exact ⟨Int.natCast_nonneg i, by show (i : Int) < _; omega⟩
  · unfold allOf
    rw [List.pairwise_map]
    exact List.Pairwise.imp (R := (· < ·)) (fun {a b} h => Int.ofNat_lt.2 h) (List.pairwise_lt_range)
theorem allOf_mem {bs : List (Int × Int)} {x : Int} : x ∈ allOf bs ↔ 0 ≤ x ∧ x < (bs.length : Int) := by
  constructor
  · intro h; exact (isList_spec.1 (allOf_isList bs)).1 x h
  · rintro ⟨h0, h1⟩
    obtain ⟨i, rfl⟩ := Int.eq_ofNat_of_zero_le h0
    exact List.mem_map.2 ⟨i, List.mem_range.2 (by omega), rfl⟩
theorem others_all (bs : List (Int × Int)) : others bs (allOf bs) = [] := by
  unfold others
  rw [List.map_eq_nil_iff, List.filter_eq_nil_iff]
  intro i hi
  have : hasI (allOf bs) (i : Int) = true := hasI_iff.2 (allOf_mem.2 ⟨Int.natCast_nonneg i, by have := List.mem_range.1 hi; omega⟩)
  simp [this]
structure Lft (bs : List (Int × Int)) (st : Int) (l : List Int) : Prop where
  list : isList l (bs.length : Int) = true
  good : leftGood bs st l = true
theorem lft_all (bs : List (Int × Int)) {st : Int} (h : 0 ≤ st) : Lft bs st (allOf bs) := ⟨allOf_isList bs, by
  unfold leftGood
  rw [others_all]
  simpa [fewestOf, ports] using h⟩
theorem leftOf_spec (bs : List (Int × Int)) {st : Int} (h : 0 ≤ st) : Lft bs st (leftOf bs st) ∧ ∀ l, Lft bs st l → betL l (leftOf bs st) = false := by
  obtain ⟨h1, h2, h3⟩ := sel_spec order_betL (fun b => leftGood bs st (listed b bs.length)) (fun b => listed b bs.length) (allOf bs) (2 ^ bs.length)
  rw [← leftStep_sel] at h1 h2 h3
  refine ⟨?_, fun l hl => ?_⟩
  · rcases h1 with h1 | ⟨i, _, hg, h1⟩
    · unfold leftOf; rw [h1]; exact lft_all bs h
    · unfold leftOf; rw [h1]; exact ⟨listed_isList _ _, hg⟩
  · have e := listed_bitsL hl.list
    have := h3 (bitsL l bs.length) (bitsL_lt _ _) (by rw [e]; exact hl.good)
    rw [e] at this
    exact this
theorem leftOf_unique {bs : List (Int × Int)} {st : Int} (h0 : 0 ≤ st) {l : List Int} (h1 : Lft bs st l) (h2 : ∀ l', Lft bs st l' → betL l' l = false) : l = leftOf bs st := by
  obtain ⟨h3, h4⟩ := leftOf_spec bs h0
  rcases order_betL.tot l (leftOf bs st) with h | h | h
  · exact h
  · rw [h4 l h1] at h; cases h
  · rw [h2 _ h3] at h; cases h
end Go.Abs.Ship
end

section
/- Plain laws of stacks and of boxes that rise: the fewest stacks are as many as the most boxes that rise. -/
set_option maxRecDepth 100000
set_option linter.unusedVariables false
namespace Go.Abs.Ship

/-! ### the topmost ports, in order -/
def Sorted (T : List Int) : Prop := ∀ a b, a < b → b < T.length → T.getD a 0 < T.getD b 0

theorem getD_append_left {T : List Int} {p : Int} {k : Nat} (h : k < T.length) : (T ++ [p]).getD k 0 = T.getD k 0 := by
  rw [getD_at (by simp; omega), getD_at h, List.getElem_append_left h]
theorem getD_append_last {T : List Int} {p : Int} : (T ++ [p]).getD T.length 0 = p := by
  rw [getD_at (by simp)]; simp
theorem getD_set_self {T : List Int} {p : Int} {k : Nat} (h : k < T.length) : (T.set k p).getD k 0 = p := by
  rw [getD_at (by simpa using h)]; simp
theorem getD_set_ne {T : List Int} {p : Int} {k r : Nat} (h : r ≠ k) : (T.set r p).getD k 0 = T.getD k 0 := by
  rw [List.getD_eq_getElem?_getD, List.getD_eq_getElem?_getD, List.getElem?_set_ne h]

structure Stepped (T T' : List Int) (p : Int) (r : Nat) : Prop where
  lt : r < T'.length
  at_ : T'.getD r 0 = p
  low : ∀ k, k < r → k < T.length ∧ T.getD k 0 < p
  other : ∀ k, k < T'.length → k ≠ r → k < T.length ∧ T'.getD k 0 = T.getD k 0
  len : T.length ≤ T'.length
  le : ∀ k, k < T.length → T'.getD k 0 ≤ T.getD k 0
  sorted : Sorted T'

theorem step_spec {T : List Int} (hs : Sorted T) (p : Int) : ∃ r, Stepped T (portStep T p) p r := by
  have h := pickTo_spec T p T.length (Nat.le_refl _)
  have e : pickIn T p = pickTo T p T.length := rfl
  unfold portStep
  rw [e]
  rcases h with ⟨h1, h2⟩ | ⟨r, h1, h2, h3, h4⟩
  · rw [if_pos h1]
    refine ⟨T.length, by simp, getD_append_last, fun k hk => ⟨hk, h2 k hk⟩, fun k hk hne => ?_, by simp, fun k hk => by rw [getD_append_left hk]; exact Int.le_refl _, fun a b hab hb => ?_⟩
    · have hk2 : k < T.length := by simp at hk; omega
      exact ⟨hk2, getD_append_left hk2⟩
    · rcases Nat.lt_or_ge b T.length with hb2 | hb2
      · rw [getD_append_left hb2, getD_append_left (by omega)]
        exact hs a b hab hb2
      · have : b = T.length := by simp at hb; omega
        subst this
        rw [getD_append_last, getD_append_left hab]
        exact h2 a hab
  · rw [if_neg (by omega), h1, Int.toNat_natCast]
    have low : ∀ k, k < r → T.getD k 0 < p := by
      intro k hk
      rcases Int.lt_or_le (T.getD k 0) p with h5 | h5
      · exact h5
      · have := h4 k (by omega) h5
        have := hs k r hk h2
        omega
    refine ⟨r, by simpa using h2, getD_set_self h2, fun k hk => ⟨by omega, low k hk⟩, fun k hk hne => ?_, by simp, fun k hk => ?_, fun a b hab hb => ?_⟩
    · exact ⟨by simpa using hk, getD_set_ne (Ne.symm hne)⟩
    · by_cases e : r = k
      · subst e; rw [getD_set_self h2]; exact h3
      · rw [getD_set_ne e]; exact Int.le_refl _
    · simp only [List.length_set] at hb
      by_cases ea : r = a
      · subst ea
        rw [getD_set_self h2, getD_set_ne (by omega)]
        have := hs r b hab hb
        omega
      · by_cases eb : r = b
        · subst eb
          rw [getD_set_self h2, getD_set_ne ea]
          exact low a hab
        · rw [getD_set_ne ea, getD_set_ne eb]
          exact hs a b hab hb

theorem sorted_to (bs : List (Int × Int)) : ∀ n, n ≤ bs.length → Sorted (portsTo bs n)
  | 0, _ => by intro a b _ h; simp [portsTo] at h
  | n + 1, h => by
    rw [portsTo_succ (by omega)]
    obtain ⟨r, hr⟩ := step_spec (sorted_to bs n (by omega)) bs[n].1
    exact hr.sorted

/-! ### boxes that rise, the last one first -/
structure UpL (bs : List (Int × Int)) (n : Nat) (l : List Nat) : Prop where
  lt : ∀ a ∈ l, a < n
  up : l.Pairwise (fun a b : Nat => b < a ∧ pt bs (b : Int) < pt bs (a : Int))
theorem UpL.tail {bs : List (Int × Int)} {n a : Nat} {l : List Nat} (h : UpL bs n (a :: l)) : UpL bs a l := by
  have := List.pairwise_cons.1 h.up
  exact ⟨fun b hb => (this.1 b hb).1, this.2⟩
theorem UpL.more {bs : List (Int × Int)} {n m : Nat} {l : List Nat} (h : UpL bs n l) (hnm : n ≤ m) : UpL bs m l := ⟨fun a ha => Nat.lt_of_lt_of_le (h.lt a ha) hnm, h.up⟩

theorem piles_ge (bs : List (Int × Int)) : ∀ n, n ≤ bs.length → ∀ r, r < (portsTo bs n).length → ∃ a l, UpL bs n (a :: l) ∧ l.length = r ∧ pt bs (a : Int) = (portsTo bs n).getD r 0
  | 0, _, r, hr => by simp [portsTo] at hr
  | n + 1, hn, r, hr => by
    have hn2 : n < bs.length := by omega
    obtain ⟨q, hq⟩ := step_spec (sorted_to bs n (by omega)) bs[n].1
    rw [portsTo_succ hn2] at hr ⊢
    have ih := piles_ge bs n (by omega)
    have ep := pt_eq hn2
    by_cases e : r = q
    · subst e
      rw [hq.at_]
      cases r with
      | zero => exact ⟨n, [], ⟨fun a ha => by simp at ha; omega, List.pairwise_singleton ..⟩, rfl, ep⟩
      | succ r =>
        obtain ⟨h1, h2⟩ := hq.low r (by omega)
        obtain ⟨a, l, h3, h4, h5⟩ := ih r h1
        refine ⟨n, a :: l, ⟨fun x hx => ?_, ?_⟩, by simp [h4], ep⟩
        · rcases List.mem_cons.1 hx with rfl | hx
          · omega
          · have := h3.lt x hx; omega
        · refine List.pairwise_cons.2 ⟨fun x hx => ⟨h3.lt x hx, ?_⟩, h3.up⟩
          rw [ep]
          rcases List.mem_cons.1 hx with rfl | hx
          · omega
          · have := ((List.pairwise_cons.1 h3.up).1 x hx).2; omega
    · obtain ⟨h1, h2⟩ := hq.other r hr e
      obtain ⟨a, l, h3, h4, h5⟩ := ih r h1
      exact ⟨a, l, h3.more (by omega), h4, by rw [h2]; exact h5⟩

theorem piles_le (bs : List (Int × Int)) : ∀ n, n ≤ bs.length → ∀ a l, UpL bs n (a :: l) → l.length < (portsTo bs n).length ∧ (portsTo bs n).getD l.length 0 ≤ pt bs (a : Int)
  | 0, _, a, l, h => absurd (h.lt a (by simp)) (Nat.not_lt_zero _)
  | n + 1, hn, a, l, h => by
    have hn2 : n < bs.length := by omega
    obtain ⟨q, hq⟩ := step_spec (sorted_to bs n (by omega)) bs[n].1
    rw [portsTo_succ hn2]
    have ih := piles_le bs n (by omega)
    have ep := pt_eq hn2
    rcases Nat.lt_or_ge a n with ha | ha
    · have h2 : UpL bs n (a :: l) := ⟨fun x hx => by
        rcases List.mem_cons.1 hx with rfl | hx
        · exact ha
        · have := h.tail.lt x hx; omega, h.up⟩
      obtain ⟨h3, h4⟩ := ih a l h2
      have := hq.le _ h3
      have := hq.len
      exact ⟨by omega, by omega⟩
    · obtain rfl : a = n := by have := h.lt a (by simp); omega
      rw [ep]
      cases l with
      | nil =>
        have h0 : 0 < (portStep (portsTo bs a) bs[a].1).length := Nat.lt_of_le_of_lt (Nat.zero_le _) hq.lt
        refine ⟨h0, ?_⟩
        simp only [List.length_nil]
        rcases Nat.eq_zero_or_pos q with hq0 | hq0
        · subst hq0; rw [hq.at_]; exact Int.le_refl _
        · have := hq.low 0 hq0
          rw [(hq.other 0 h0 (by omega)).2]
          omega
      | cons b l =>
        have hb := ((List.pairwise_cons.1 h.up).1 b (by simp)).2
        rw [ep] at hb
        obtain ⟨h3, h4⟩ := ih b l h.tail
        have hqr : l.length < q := by
          rcases Nat.lt_or_ge l.length q with h5 | h5
          · exact h5
          · exfalso
            rcases Nat.lt_or_ge q l.length with h6 | h6
            · have h7 := (sorted_to bs a (by omega)) q l.length h6 h3
              have h8 := hq.le q (by omega)
              rw [hq.at_] at h8
              omega
            · have e : q = l.length := by omega
              have h8 := hq.le q (by omega)
              rw [hq.at_, e] at h8
              omega
        simp only [List.length_cons]
        have h9 := hq.lt
        refine ⟨by omega, ?_⟩
        by_cases e : l.length + 1 = q
        · rw [e, hq.at_]; exact Int.le_refl _
        · have h10 := hq.low (l.length + 1) (by omega)
          rw [(hq.other (l.length + 1) (by omega) e).2]
          omega

theorem up_le (bs : List (Int × Int)) {l : List Nat} (h : UpL bs bs.length l) : l.length ≤ (ports bs).length := by
  have e : ports bs = portsTo bs bs.length := by unfold ports portsTo; rw [List.take_length]
  cases l with
  | nil => simp
  | cons a l => rw [e]; exact (piles_le bs _ (Nat.le_refl _) a l h).1
theorem up_ge (bs : List (Int × Int)) : ∃ l, UpL bs bs.length l ∧ l.length = (ports bs).length := by
  have e : ports bs = portsTo bs bs.length := by unfold ports portsTo; rw [List.take_length]
  rw [e]
  rcases Nat.eq_zero_or_pos (portsTo bs bs.length).length with h | h
  · exact ⟨[], ⟨fun a h => (by cases h), List.Pairwise.nil⟩, by simp [h]⟩
  · obtain ⟨a, l, h1, h2, _⟩ := piles_ge bs _ (Nat.le_refl _) ((portsTo bs bs.length).length - 1) (by omega)
    exact ⟨a :: l, h1, by simp [h2]; omega⟩

/-! ### the same, as lists of boxes -/
theorem riseB_spec (bs : List (Int × Int)) : ∀ (l : List Int) (a : Int), riseB bs a l = true ↔ (∀ x ∈ l, a < pt bs x) ∧ l.Pairwise (fun x y => pt bs x < pt bs y)
  | [], a => by simp [riseB]
  | x :: l, a => by
    simp only [riseB, Bool.and_eq_true, decide_eq_true_eq, riseB_spec bs l (pt bs x), List.mem_cons, List.pairwise_cons]
    constructor
    · rintro ⟨h1, h2, h3⟩
      exact ⟨fun y hy => by
        rcases hy with rfl | hy
        · exact h1
        · have := h2 y hy; omega, h2, h3⟩
    · rintro ⟨h1, h2, h3⟩
      exact ⟨h1 x (.inl rfl), h2, h3⟩
theorem pt_pos {bs : List (Int × Int)} (h : anyBad bs = false) {x : Int} (h0 : 0 ≤ x) (h1 : x < (bs.length : Int)) : 1 ≤ pt bs x ∧ pt bs x ≤ 20 := by
  have := box_spec h (i := x.toNat) (by omega)
  rw [ptI h0 (by omega)] at this
  omega
/-- Boxes in order that rise, in other words. -/
theorem ris_iff {bs : List (Int × Int)} (hg : anyBad bs = false) {l : List Int} : Ris bs l ↔ (∀ x ∈ l, 0 ≤ x ∧ x < (bs.length : Int)) ∧ l.Pairwise (fun a b => a < b ∧ pt bs a < pt bs b) := by
  constructor
  · rintro ⟨h1, h2⟩
    obtain ⟨h3, h4⟩ := isList_spec.1 h1
    obtain ⟨h5, h6⟩ := (riseB_spec bs l 0).1 h2
    exact ⟨h3, h4.and h6⟩
  · rintro ⟨h1, h2⟩
    refine ⟨isList_spec.2 ⟨h1, h2.imp (fun h => h.1)⟩, (riseB_spec bs l 0).2 ⟨fun x hx => ?_, h2.imp (fun h => h.2)⟩⟩
    have := h1 x hx
    have := pt_pos hg this.1 this.2
    omega
theorem ris_of_up {bs : List (Int × Int)} (hg : anyBad bs = false) {l : List Nat} (h : UpL bs bs.length l) : Ris bs (l.reverse.map Int.ofNat) := by
  refine (ris_iff hg).2 ⟨fun x hx => ?_, ?_⟩
  · obtain ⟨a, ha, rfl⟩ := List.mem_map.1 hx
    have := h.lt a (List.mem_reverse.1 ha)
    exact ⟨Int.natCast_nonneg a, by show (a : Int) < _; omega⟩
  · rw [List.pairwise_map, List.pairwise_reverse]
    exact h.up.imp (fun {a b} h => ⟨Int.ofNat_lt.2 h.1, h.2⟩)
theorem up_of_ris {bs : List (Int × Int)} (hg : anyBad bs = false) {l : List Int} (h : Ris bs l) : UpL bs bs.length (l.reverse.map Int.toNat) := by
  obtain ⟨h1, h2⟩ := (ris_iff hg).1 h
  refine ⟨fun a ha => ?_, ?_⟩
  · obtain ⟨x, hx, rfl⟩ := List.mem_map.1 ha
    have := h1 x (List.mem_reverse.1 hx)
    omega
  · rw [List.pairwise_map, List.pairwise_reverse]
    refine List.Pairwise.imp_of_mem (fun {a b} ha hb h => ?_) h2
    have ha := h1 a ha
    have hb := h1 b hb
    exact ⟨by omega, by rw [natI ha.1, natI hb.1]; exact h.2⟩
theorem fewest_le {bs : List (Int × Int)} (hg : anyBad bs = false) {l : List Int} (h : Ris bs l) : (l.length : Int) ≤ fewestOf bs := by
  have := up_le bs (up_of_ris hg h)
  simp only [List.length_map, List.length_reverse] at this
  unfold fewestOf; omega
theorem fewest_ge {bs : List (Int × Int)} (hg : anyBad bs = false) : ∃ l, Ris bs l ∧ (l.length : Int) = fewestOf bs := by
  obtain ⟨l, h1, h2⟩ := up_ge bs
  exact ⟨_, ris_of_up hg h1, by simp [fewestOf, h2]⟩
theorem fewest_le_iff {bs : List (Int × Int)} (hg : anyBad bs = false) (k : Int) : fewestOf bs ≤ k ↔ ∀ l, Ris bs l → (l.length : Int) ≤ k := by
  constructor
  · intro h l hl
    have := fewest_le hg hl
    omega
  · intro h
    obtain ⟨l, h1, h2⟩ := fewest_ge hg
    rw [← h2]; exact h l h1
/-- As many as the most boxes that rise. -/
theorem fewest_rising {bs : List (Int × Int)} (hg : anyBad bs = false) : ((risingOf bs).length : Int) = fewestOf bs := by
  obtain ⟨h1, h2⟩ := risingOf_spec bs
  have h3 := fewest_le hg h1
  obtain ⟨l, h4, h5⟩ := fewest_ge hg
  have h6 := h2 l h4
  have : ¬ l.length > (risingOf bs).length := by
    intro h
    have : betR l (risingOf bs) = true := by simp [betR, h]
    rw [h6] at this; cases this
  omega

/-! ### few stacks of given boxes -/
theorem few_ports (bs : List (Int × Int)) (l : List Int) : ∀ j, j ≤ l.length → (fewSt bs (l.take j)).1.map (pt bs) = ((l.take j).map (pt bs)).foldl portStep []
  | 0, _ => by simp [fewSt]
  | j + 1, h => by
    have ih := few_ports bs l j (by omega)
    rw [fewSt_succ bs l (by omega), List.take_succ_eq_append_getElem (by omega), List.map_append, List.foldl_append, ← ih]
    simp only [List.map_cons, List.map_nil, List.foldl_cons, List.foldl_nil]
    unfold fewStep portStep pick
    split <;> simp [List.map_append, List.map_set]
theorem fewN_eq (bs : List (Int × Int)) (l : List Int) : fewN bs l = (((l.map (pt bs)).foldl portStep []).length : Int) := by
  have := few_ports bs l l.length (Nat.le_refl _)
  rw [List.take_length] at this
  unfold fewN
  rw [← this]; simp
theorem map_range_getD (bs : List (Int × Int)) : (List.range bs.length).map (fun i => bs.getD i (0, 0)) = bs := by
  apply List.ext_getElem
  · simp
  · intro i h1 h2
    simp only [List.getElem_map, List.getElem_range]
    exact getD_at h2
theorem fewN_all (bs : List (Int × Int)) : fewN bs (allOf bs) = fewestOf bs := by
  rw [fewN_eq]
  unfold fewestOf ports allOf
  congr 3
  rw [List.map_map]
  have := congrArg (List.map Prod.fst) (map_range_getD bs)
  rw [List.map_map] at this
  rw [← this]
  apply List.map_congr_left
  intro i _
  rfl
theorem fewN_rest (bs : List (Int × Int)) (x : List Int) : fewN bs ((allOf bs).filter (fun i => !hasI x i)) = fewestOf (others bs x) := by
  rw [fewN_eq]
  unfold fewestOf ports allOf others
  congr 3
  rw [List.filter_map, List.map_map, List.map_map]
  apply List.map_congr_left
  intro i _
  rfl
end Go.Abs.Ship
end

section
/- The ship's functions keep their contracts: fourth part. -/
open Go.Proofs
set_option maxRecDepth 100000
set_option linter.unusedVariables false
namespace Go.Abs.Ship

def lastP (bs : List (Int × Int)) : Int → List Int → Int
  | a, [] => a
  | _, y :: l => lastP bs (pt bs y) l
theorem lastP_snoc (bs : List (Int × Int)) (x : Int) : ∀ (l : List Int) (a : Int), lastP bs a (l ++ [x]) = pt bs x
  | [], a => rfl
  | y :: l, a => lastP_snoc bs x l _
theorem riseB_snoc (bs : List (Int × Int)) (x : Int) : ∀ (l : List Int) (a : Int), riseB bs a (l ++ [x]) = (riseB bs a l && decide (lastP bs a l < pt bs x))
  | [], a => by
    simp only [List.nil_append, riseB, Bool.and_true, Bool.true_and, lastP]
    rfl
  | y :: l, a => by
    simp only [List.cons_append, riseB, riseB_snoc bs x l (pt bs y), Bool.and_assoc, lastP]
    rfl
theorem riseB_append_false (bs : List (Int × Int)) : ∀ (l m : List Int) (a : Int), riseB bs a l = false → riseB bs a (l ++ m) = false
  | [], m, a, h => by cases h
  | y :: l, m, a, h => by
    simp only [List.cons_append, riseB] at h ⊢
    cases hd : decide (a < pt bs y) with
    | false => rfl
    | true =>
      rw [hd, Bool.true_and] at h
      rw [Bool.true_and]
      exact riseB_append_false bs l m _ h

theorem k84 (hG : Good Try.prog (envOf [])) : v84.Kept Try.prog 84 := by
  rintro ⟨bs, bits, ⟨⟩⟩ hpre k hk
  change List (Int × Int) at bs
  change Int at bits
  refine aspec hmix hG Try.func84 tx84 (Eq.mpr (eq84 bs bits k) ?_)
  replace hk : k (.bool (riseBits bs bits.toNat)) [] := hk
  unfold vc84
  obtain ⟨hb, h1, h2⟩ := hpre
  have hb : bs.length ≤ 16 := hb
  have h1 : 0 ≤ bits := h1
  have h2 : bits < 4611686018427387904 := h2
  obtain ⟨b, rfl⟩ := Int.eq_ofNat_of_zero_le h1
  rw [Int.toNat_natCast] at hk
  refine Loop.intro (fun x => ∃ (i : Nat) (last : Int), x = (bs, (b : Int), last, (i : Int), ()) ∧ i ≤ bs.length ∧ riseB bs 0 (listed b i) = true ∧ last = lastP bs 0 (listed b i)) (fun x => bs.length - x.2.2.2.1.toNat) ?_ ⟨0, 0, rfl, by omega, rfl, rfl⟩
  rintro x K ⟨i, last, rfl, hi, hr, hlast⟩ hK
  dsimp only
  rw [br_decide]
  refine ⟨fun h => ?_, fun h => ?_⟩
  · have hlt : i < bs.length := by omega
    have hs := listed_succ b i
    refine ⟨by omega, ?_⟩
    rw [bit_test b i (by omega)]
    have dec : bs.length - ((i : Int) + 1).toNat < bs.length - ((i : Int)).toNat := by omega
    refine br_intro (fun h3 => ?_) (fun h3 => ?_)
    · rw [if_pos h3] at hs
      refine ⟨⟨by omega, by omega⟩, ?_⟩
      simp only [Int.toNat_natCast]
      have hn := riseB_snoc bs (i : Int) (listed b i) 0
      rw [← hs, hr, Bool.true_and, ← hlast, pt_eq hlt] at hn
      rw [br_decide]
      refine ⟨fun h4 => ?_, fun h4 => ⟨⟨by omega, by omega⟩, fits64 (by omega) (by omega), hK _ ⟨i + 1, bs[i].1, rfl, hlt, ?_, ?_⟩ dec⟩⟩
      · have e : riseBits bs b = false := by
          have hf : riseB bs 0 (listed b (i + 1)) = false := by rw [hn]; simp; omega
          unfold riseBits
          have : ∃ m, listed b bs.length = listed b (i + 1) ++ m := by
            have key : ∀ n, i + 1 ≤ n → ∃ m, listed b n = listed b (i + 1) ++ m := by
              intro n hn2
              induction n with
              | zero => omega
              | succ n ih =>
                by_cases e : i + 1 = n + 1
                · exact ⟨[], by rw [e]; simp⟩
                · obtain ⟨m, hm⟩ := ih (by omega)
                  rw [listed_succ b n, hm]
                  exact ⟨_, List.append_assoc ..⟩
            exact key _ hlt
          obtain ⟨m, hm⟩ := this
          rw [hm]
          exact riseB_append_false bs _ m 0 hf
        rwa [e] at hk
      · rw [hn]; simp; omega
      · rw [hs, lastP_snoc, pt_eq hlt]
    · rw [if_neg (by simp [h3]), List.append_nil] at hs
      exact ⟨fits64 (by omega) (by omega), hK _ ⟨i + 1, last, rfl, hlt, by rw [hs]; exact hr, by rw [hs]; exact hlast⟩ dec⟩
  · have e : riseBits bs b = true := by
      have : i = bs.length := by omega
      subst this
      exact hr
    rwa [e] at hk

theorem riseTo_succ (bs : List (Int × Int)) (b : Nat) : (List.range (b + 1)).foldl (riseStep bs) [] = riseStep bs ((List.range b).foldl (riseStep bs) []) b := by
  rw [List.range_succ, List.foldl_append]; rfl
theorem riseTo_len (bs : List (Int × Int)) : ∀ n, ((List.range n).foldl (riseStep bs) []).length ≤ bs.length
  | 0 => by simp
  | n + 1 => by
    rw [riseTo_succ]
    unfold riseStep
    split
    · exact listed_len _ _
    · exact riseTo_len bs n

theorem pow_small {n : Nat} (h : n ≤ 16) : 2 ^ n ≤ 65536 := by
  have : 2 ^ n ≤ 2 ^ 16 := Nat.pow_le_pow_right (by omega) h
  simpa using this

theorem k67 (hG : Good Try.prog (envOf [(44, mkC [v44]), (84, mkC [v84]), (72, mkC [v72])])) : v67.Kept Try.prog 67 := by
  rintro ⟨bs, ⟨⟩⟩ hpre k hk
  change List (Int × Int) at bs
  refine aspec hmix hG Try.func67 tx67 (Eq.mpr (eq67 bs k) ?_)
  replace hk : k (.reg 0 false) [.sl (.int .i64) (risingOf bs)] := hk
  unfold vc67
  have hb : bs.length ≤ 16 := hpre
  have hp := pow_small hb
  have e : shlA .i64 1 ((bs.length : Nat) : Int) = ((2 ^ bs.length : Nat) : Int) := one_shl bs.length (by omega)
  refine Loop.upto (fun b => (bs, (b : Int), (List.range b).foldl (riseStep bs) [], ())) (fun b => True) (2 ^ bs.length) rfl trivial ?_ ?_
  · intro b K hlt _ hK
    dsimp only
    rw [e]
    refine ⟨by omega, ?_⟩
    rw [br_decide]
    refine ⟨fun _ => ⟨⟨⟨by show (0 : Int) ≤ (b : Int); omega, by show (b : Int) < 4611686018427387904; omega⟩, by show (0 : Int) ≤ ((bs.length : Nat) : Int); omega, by show ((bs.length : Nat) : Int) ≤ 40; omega⟩, ⟨hb, by show (0 : Int) ≤ (b : Int); omega, by show (b : Int) < 4611686018427387904; omega⟩, ?_⟩, fun h => absurd hlt (by omega)⟩
    have hK := hK trivial
    rw [riseTo_succ] at hK
    have hl := riseTo_len bs b
    have hl2 := listed_len b bs.length
    simp only [Int.toNat_natCast]
    generalize (List.range b).foldl (riseStep bs) [] = best at hK hl ⊢
    unfold riseStep at hK
    rw [br_bt]
    refine ⟨fun h1 => ?_, fun h1 => ⟨fits64 (by omega) (by omega), ?_⟩⟩
    · rw [br_false]
      refine ⟨fun h2 => ?_, fun h2 => ⟨fits64 (by omega) (by omega), ?_⟩⟩
      · rw [br_bt]
        simp only [beq_iff_eq]
        refine ⟨fun h3 => ⟨⟨by show (listed b bs.length).length ≤ big60; simp only [big60]; omega, by show best.length ≤ big60; simp only [big60]; omega⟩, ?_⟩, fun h3 => ⟨fits64 (by omega) (by omega), ?_⟩⟩
        · refine br_intro (fun h4 => ⟨fits64 (by omega) (by omega), ?_⟩) (fun h4 => ⟨fits64 (by omega) (by omega), ?_⟩)
          · rw [if_pos ⟨h1, .inr ⟨by omega, h4⟩⟩] at hK; exact hK
          · rw [if_neg (by
              rintro ⟨_, h5 | ⟨_, h5⟩⟩
              · omega
              · rw [h4] at h5; cases h5)] at hK
            exact hK
        · have h3 : ¬ ((listed b bs.length).length : Int) = (best.length : Int) := by simpa using h3
          rw [if_neg (by
            rintro ⟨_, h5 | ⟨h5, _⟩⟩
            · omega
            · omega)] at hK
          exact hK
      · rw [if_pos ⟨h1, .inl (by omega)⟩] at hK; exact hK
    · rw [if_neg (by rintro ⟨h5, _⟩; rw [h1] at h5; cases h5)] at hK; exact hK
  · intro K _
    dsimp only
    rw [e]
    refine ⟨by omega, ?_⟩
    rw [br_decide]
    exact ⟨fun h => absurd h (by omega), fun _ => hk⟩

theorem k23 (hG : Good Try.prog (envOf [(61, mkC [v61]), (62, mkC [v62]), (63, mkC [v63])])) : v23.Kept Try.prog 23 := by
  rintro ⟨bs, st, fl, ⟨⟩⟩ hpre k hk
  change List (Int × Int) at bs
  change Int at st fl
  refine aspec hmix hG Try.func23 tx23 (Eq.mpr (eq23 bs st fl k) ?_)
  replace hk : k (.tup [rI (fewestN bs st fl), rI (checkLoad bs st fl)]) [] := hk
  unfold vc23
  have hb : bs.length ≤ 16 := hpre
  refine ⟨hb, ?_⟩
  refine br_errs (p := fun e => k (.tup [rI 0, rI e]) []) (fun h => ?_) (fun h => ⟨by show bs.length ≤ 1000; omega, ⟨by show bs.length ≤ 1000; omega, by show (allOf bs).length ≤ 1000; simp [allOf]; omega, fun j hj => allOf_mem.1 hj⟩, ?_⟩)
  · have e : fewestN bs st fl = 0 := by unfold fewestN; rw [if_pos h]
    rwa [e] at hk
  · have e : fewestN bs st fl = fewN bs (allOf bs) := by unfold fewestN; rw [if_neg (by simp [h]), fewN_all]
    rwa [e, h] at hk

theorem k24 (hG : Good Try.prog (envOf [(22, mkC [v22]), (64, mkC [v64])])) : v24.Kept Try.prog 24 := by
  rintro ⟨bs, st, fl, ⟨⟩⟩ hpre k hk
  change List (Int × Int) at bs
  change Int at st fl
  refine aspec hmix hG Try.func24 tx24 (Eq.mpr (eq24 bs st fl k) ?_)
  replace hk : k (.tup [rI (fewestN bs st fl), rI (checkLoad bs st fl)]) [] := hk
  unfold vc24
  have hb : bs.length ≤ 16 := hpre
  refine ⟨hb, ?_⟩
  rw [br_bne]
  refine ⟨fun h => ⟨hb, ?_⟩, fun h => ⟨by show bs.length ≤ 1000; omega, ?_⟩⟩
  · have e : fewestN bs st fl = 0 := by unfold fewestN; rw [if_pos h]
    rwa [e] at hk
  · have e : fewestN bs st fl = fewestOf bs := by unfold fewestN; rw [if_neg (by simp [h])]
    rwa [e, h] at hk

theorem k27 (hG : Good Try.prog (envOf [(61, mkC [v61]), (66, mkC [v66])])) : v27.Kept Try.prog 27 := by
  rintro ⟨bs, st, fl, ⟨⟩⟩ hpre k hk
  change List (Int × Int) at bs
  change Int at st fl
  refine aspec hmix hG Try.func27 tx27 (Eq.mpr (eq27 bs st fl k) ?_)
  replace hk : k (.tup [.reg 0 false, rI (checkLoad bs st fl)]) [.sl (.int .i64) (risingN bs st fl)] := hk
  unfold vc27
  have hb : bs.length ≤ 16 := hpre
  refine ⟨hb, ?_⟩
  refine br_errs (p := fun e => k (.tup [.reg 0 false, rI e]) [.sl (.int .i64) []]) (fun h => ?_) (fun h => ⟨⟨hb, (fine_spec h).2.2.2.2.2⟩, ?_⟩)
  · have e : risingN bs st fl = [] := by unfold risingN; rw [if_pos h]
    rwa [e] at hk
  · have e : risingN bs st fl = risingOf bs := by unfold risingN; rw [if_neg (by simp [h])]
    rwa [e, h] at hk

theorem k28 (hG : Good Try.prog (envOf [(22, mkC [v22]), (67, mkC [v67])])) : v28.Kept Try.prog 28 := by
  rintro ⟨bs, st, fl, ⟨⟩⟩ hpre k hk
  change List (Int × Int) at bs
  change Int at st fl
  refine aspec hmix hG Try.func28 tx28 (Eq.mpr (eq28 bs st fl k) ?_)
  replace hk : k (.tup [.reg 0 false, rI (checkLoad bs st fl)]) [.sl (.int .i64) (risingN bs st fl)] := hk
  unfold vc28
  have hb : bs.length ≤ 16 := hpre
  refine ⟨hb, ?_⟩
  rw [br_bne]
  refine ⟨fun h => ⟨hb, ?_⟩, fun h => ⟨hb, ?_⟩⟩
  · have e : risingN bs st fl = [] := by unfold risingN; rw [if_pos h]
    rwa [e] at hk
  · have e : risingN bs st fl = risingOf bs := by unfold risingN; rw [if_neg (by simp [h])]
    rwa [e, h] at hk

theorem fewSt_len (bs : List (Int × Int)) (l : List Int) : ∀ j, j ≤ l.length → (fewSt bs (l.take j)).2.length = j
  | 0, _ => rfl
  | j + 1, h => by
    have ih := fewSt_len bs l j (by omega)
    rw [fewSt_succ bs l (by omega)]
    unfold fewStep
    split <;> simp [ih]
theorem fewS_len (bs : List (Int × Int)) (l : List Int) : (fewS bs l).length = l.length := by
  have := fewSt_len bs l l.length (Nat.le_refl _)
  rwa [List.take_length] at this

theorem k29 (hG : Good Try.prog (envOf [(61, mkC [v61]), (62, mkC [v62]), (63, mkC [v63])])) : v29.Kept Try.prog 29 := by
  rintro ⟨bs, st, fl, ⟨⟩⟩ hpre k hk
  change List (Int × Int) at bs
  change Int at st fl
  refine aspec hmix hG Try.func29 tx29 (Eq.mpr (eq29 bs st fl k) ?_)
  replace hk : k (.tup [.reg 0 false, rI (checkLoad bs st fl)]) [.sl (.int .i64) (smoothN bs st fl)] := hk
  unfold vc29
  have hb : bs.length ≤ 16 := hpre
  refine ⟨hb, ?_⟩
  refine br_errs (p := fun e => k (.tup [.reg 0 false, rI e]) [.sl (.int .i64) []]) (fun h => ?_) (fun h => ?_)
  · have e : smoothN bs st fl = [] := by unfold smoothN; rw [if_pos h]
    rwa [e] at hk
  have hl : (allOf bs).length = bs.length := by simp [allOf]
  have hs := fewS_len bs (allOf bs)
  refine ⟨by show bs.length ≤ 1000; omega, ⟨by show bs.length ≤ 1000; omega, by show (allOf bs).length ≤ 1000; omega, fun j hj => allOf_mem.1 hj⟩, ⟨by omega, rfl, by simp [big]; omega⟩, ?_⟩
  have e : smoothN bs st fl = fewS bs (allOf bs) := by unfold smoothN; rw [if_neg (by simp [h])]
  rw [e, h] at hk
  simp only [Int.toNat_natCast, List.length_replicate, List.take_length, List.drop_replicate, Nat.sub_self, List.replicate_zero, List.append_nil]
  exact hk

/-! ### smoothest stows -/
theorem counts_len (s : List Int) (n : Nat) : (counts s (n : Int)).length = n := by simp [counts]
theorem counts_at (s : List Int) (n i : Nat) (h : i < (counts s (n : Int)).length) : (counts s (n : Int))[i] = ((s.filter (isI (i : Int))).length : Int) := by simp [counts]
theorem counts_zero (n : Nat) : counts [] (n : Int) = List.replicate n 0 := by
  apply List.ext_getElem
  · simp [counts]
  · intro i h1 h2
    rw [counts_at]; simp
theorem counts_snoc (s : List Int) (n : Nat) (x : Int) (h0 : 0 ≤ x) (h : x.toNat < (counts s (n : Int)).length) : counts (s ++ [x]) (n : Int) = (counts s (n : Int)).set x.toNat ((counts s (n : Int))[x.toNat] + 1) := by
  have e0 := counts_at s n x.toNat h
  apply List.ext_getElem
  · simp [counts]
  · intro i h1 h2
    rw [counts_at, List.getElem_set, List.filter_append, List.length_append]
    split
    · rename_i e
      subst e
      have : isI ((x.toNat : Nat) : Int) x = true := by simp [isI]; omega
      rw [e0, List.filter_cons, if_pos this]; rfl
    · rename_i e
      have : isI (i : Int) x = false := by simp [isI]; omega
      rw [List.filter_cons, if_neg (by simp [this]), counts_at]; simp
theorem ports_le (bs : List (Int × Int)) : (ports bs).length ≤ bs.length := by
  have e : ports bs = portsTo bs bs.length := by unfold ports portsTo; rw [List.take_length]
  rw [e]; exact portsTo_len (Nat.le_refl _)

theorem k31 (hG : Good Try.prog (envOf [(64, mkC [v64]), (45, mkC [v45])])) : v31.Kept Try.prog 31 := by
  rintro ⟨bs, st, fl, s, ⟨⟩⟩ hpre k hk
  change List (Int × Int) at bs
  change Int at st fl
  change List Int at s
  refine aspec hmix hG Try.func31 tx31 (Eq.mpr (eq31 bs st fl s k) ?_)
  replace hk : k (.bool (smoothest bs s)) [] := hk
  unfold vc31
  obtain ⟨hb, hl⟩ := hpre
  have hb : bs.length ≤ 16 := hb
  have hl : s.length ≤ 1152921504606846976 := hl
  have hn := ports_le bs
  refine ⟨by show bs.length ≤ 1000; omega, ?_⟩
  rw [br_bne]
  refine ⟨fun h => ?_, fun h => ?_⟩
  · have e : smoothest bs s = false := by
      unfold smoothest
      have : decide (s.length = bs.length) = false := by simp; omega
      rw [this, Bool.false_and]
    rwa [e] at hk
  have hlen : decide (s.length = bs.length) = true := by simp; omega
  have ef : fewestOf bs = (((ports bs).length : Nat) : Int) := rfl
  have e0 : smoothest bs s = (!anyOut 0 (fewestOf bs - 1) s && ((counts s (fewestOf bs)).all (fun c => decide (c ≠ 0)) && smoothB bs s)) := by
    unfold smoothest; rw [hlen, Bool.true_and]
  rw [e0, ef] at hk
  rw [ef]
  generalize hN : (ports bs).length = N at hn hk ⊢
  have bad : ∀ y ∈ s, outOf 0 ((N : Int) - 1) y = true → k (.bool false) [] := by
    intro y hy ho
    have : anyOut 0 ((N : Int) - 1) s = true := List.any_eq_true.2 ⟨y, hy, ho⟩
    rwa [this] at hk
  refine ⟨⟨by omega, rfl, by simp [big]; omega⟩, ?_⟩
  refine Loop.upto (fun i => (s, (N : Int), (i : Int), bs, st, fl, counts (s.take i) (N : Int), ())) (fun i => ∀ y ∈ s.take i, outOf 0 ((N : Int) - 1) y = false) s.length ?_ (by simp) ?_ ?_
  · show (s, (N : Int), ((0 : Nat) : Int), bs, st, fl, counts (s.take 0) (N : Int), ()) = _
    rw [List.take_zero, counts_zero]; rfl
  · intro i K hi hp hK
    dsimp only
    rw [br_decide]
    refine ⟨fun _ => ?_, fun h => absurd hi (by omega)⟩
    try simp only [Int.toNat_natCast]
    refine ⟨⟨by omega, by omega⟩, ?_⟩
    rw [br_false]
    refine ⟨fun h1 => ⟨⟨by omega, by omega⟩, ?_⟩, fun h1 => bad _ (List.getElem_mem hi) (by simp [outOf]; omega)⟩
    rw [br_decide]
    refine ⟨fun h2 => bad _ (List.getElem_mem hi) (by simp [outOf]; omega), fun h2 => ?_⟩
    have hw : s[i].toNat < (counts (s.take i) (N : Int)).length := by rw [counts_len]; omega
    have hK := hK (take_all_succ _ _ _ hi hp (by simp [outOf]; omega))
    rw [List.take_succ_eq_append_getElem hi, counts_snoc _ N _ (by omega) hw] at hK
    have hc := List.length_filter_le (isI ((s[i].toNat : Nat) : Int)) (s.take i)
    rw [List.length_take] at hc
    refine ⟨⟨by omega, by omega⟩, ⟨by omega, hw⟩, hw, ?_, ⟨by omega, hw⟩, hw, fits64 (by omega) (by omega), hK⟩
    rw [counts_at]
    exact fits64 (by omega) (by omega)
  · intro K hp
    dsimp only
    rw [br_decide]
    refine ⟨fun h => absurd h (by omega), fun _ => ?_⟩
    rw [List.take_length] at hp ⊢
    have ho : anyOut 0 ((N : Int) - 1) s = false := by
      rw [← Bool.not_eq_true]
      intro hh
      obtain ⟨y, hy, hyo⟩ := List.any_eq_true.1 hh
      rw [hp y hy] at hyo; cases hyo
    rw [ho] at hk
    simp only [Bool.not_false, Bool.true_and] at hk
    have hcl := counts_len s N
    generalize hC : counts s (N : Int) = C at hk hcl ⊢
    refine Loop.upto (fun i => (s, (N : Int), (i : Int), bs, st, fl, C, ())) (fun i => ∀ c ∈ C.take i, c ≠ 0) N rfl (by simp) ?_ ?_
    · intro j K_j hj hp_j hK_j
      dsimp only
      rw [br_decide]
      refine ⟨fun _ => ?_, fun h => absurd hj (by omega)⟩
      try simp only [Int.toNat_natCast]
      have hj2 : j < C.length := by omega
      refine ⟨⟨by omega, hj2⟩, hj2, ?_⟩
      rw [br_beq]
      refine ⟨fun h1 => ?_, fun h1 => ⟨fits64 (by omega) (by omega), hK_j (fun c hc => ?_)⟩⟩
      · have : C.all (fun c => decide (c ≠ 0)) = false := by
          rw [← Bool.not_eq_true, List.all_eq_true]
          intro hh
          have := hh _ (List.getElem_mem hj2)
          simp only [decide_eq_true_eq] at this
          exact this h1
        rwa [this] at hk
      · rw [List.take_succ_eq_append_getElem hj2, List.mem_append] at hc
        rcases hc with hc | hc
        · exact hp_j c hc
        · simp only [List.mem_singleton] at hc; subst hc; exact h1
    · intro K_j hp_j
      dsimp only
      rw [br_decide]
      refine ⟨fun h => absurd h (by omega), fun _ => ?_⟩
      rw [List.take_of_length_le (by omega)] at hp_j
      have : C.all (fun c => decide (c ≠ 0)) = true := List.all_eq_true.2 (fun c hc => by simpa using hp_j c hc)
      rw [this, Bool.true_and] at hk
      exact ⟨⟨by show s.length ≤ bs.length; omega, by show bs.length ≤ big60; simp only [big60]; omega⟩, hk⟩

/-! ### searches -/
theorem k95 (hG : Good Try.prog (envOf [])) : v95.Kept Try.prog 95 := by
  rintro ⟨l, x, ⟨⟩⟩ hpre k hk
  change List Int at l
  change Int at x
  refine aspec hmix hG Try.func95 tx95 (Eq.mpr (eq95 l x k) ?_)
  replace hk : k (rI (indexI x l)) [] := hk
  unfold vc95
  have hl0 : l.length ≤ 1152921504606846976 := hpre
  refine Loop.upto (fun i => (l, x, ((l.length : Nat) : Int), (i : Int), ())) (fun i => ∀ y ∈ l.take i, isI x y = false) l.length rfl (by simp) ?_ ?_
  · intro i K hi hp hK
    dsimp only
    rw [br_decide]
    refine ⟨fun _ => ?_, fun h => absurd hi (by omega)⟩
    try simp only [Int.toNat_natCast]
    refine ⟨⟨by omega, by omega⟩, ?_⟩
    rw [br_beq]
    refine ⟨fun h => ?_, fun h => ⟨fits64 (by omega) (by omega), hK (take_all_succ _ _ _ hi hp (by simpa [isI] using h))⟩⟩
    have : indexI x l = (i : Int) := indexOf_some _ l i hi hp (by simpa [isI] using h)
    rwa [this] at hk
  · intro K hp
    dsimp only
    rw [br_decide]
    refine ⟨fun h => absurd h (by omega), fun _ => ?_⟩
    rw [List.take_length] at hp
    have : indexI x l = -1 := indexOf_none _ l hp
    rwa [this] at hk

theorem k90 (hG : Good Try.prog (envOf [(95, mkC [v95])])) : v90.Kept Try.prog 90 := by
  rintro ⟨l, x, ⟨⟩⟩ hpre k hk
  change List Int at l
  change Int at x
  refine aspec hmix hG Try.func90 tx90 (Eq.mpr (eq90 l x k) ?_)
  replace hk : k (.bool (hasI l x)) [] := hk
  unfold vc90
  refine ⟨hpre, ?_⟩
  have : decide (indexI x l ≥ 0) = hasI l x := indexOf_ge _ l
  rwa [this]

theorem k89 (hG : Good Try.prog (envOf [(90, mkC [v90])])) : v89.Kept Try.prog 89 := by
  rintro ⟨x, l, ⟨⟩⟩ hpre k hk
  change Int at x
  change List Int at l
  refine aspec hmix hG Try.func89 tx89 (Eq.mpr (eq89 x l k) ?_)
  replace hk : k (.bool (hasI l x)) [] := hk
  unfold vc89
  exact ⟨hpre, hk⟩

theorem k93b (hG : Good Try.prog (envOf [(89, mkC [v89])])) : v93b.Kept Try.prog 93 := by
  rintro ⟨l, m, ⟨⟩⟩ hpre k hk
  change List Int at l m
  refine aspec hmix hG Try.func93 tx93 (Eq.mpr (eq93b l m k) ?_)
  replace hk : k (rI (indexHas l m)) [] := hk
  unfold vc93b
  obtain ⟨hl0, hm0⟩ := hpre
  have hl0 : l.length ≤ 1152921504606846976 := hl0
  refine Loop.upto (fun i => (l, m, ((l.length : Nat) : Int), (i : Int), ())) (fun i => ∀ y ∈ l.take i, hasI m y = false) l.length rfl (by simp) ?_ ?_
  · intro i K hi hp hK
    dsimp only
    rw [br_decide]
    refine ⟨fun _ => ?_, fun h => absurd hi (by omega)⟩
    try simp only [Int.toNat_natCast]
    refine ⟨⟨by omega, by omega⟩, hm0, ?_⟩
    refine br_intro (fun h => ?_) (fun h => ⟨fits64 (by omega) (by omega), hK (take_all_succ _ _ _ hi hp h)⟩)
    have : indexHas l m = (i : Int) := indexOf_some _ l i hi hp h
    rwa [this] at hk
  · intro K hp
    dsimp only
    rw [br_decide]
    refine ⟨fun h => absurd h (by omega), fun _ => ?_⟩
    rw [List.take_length] at hp
    have : indexHas l m = -1 := indexOf_none _ l hp
    rwa [this] at hk
end Go.Abs.Ship
end

section
/- The ship's functions keep their contracts: the most boxes that rise. -/
open Go.Proofs
set_option maxRecDepth 100000
set_option linter.unusedVariables false
namespace Go.Abs.Ship

/-- Boxes that rise, the first one first. -/
structure Ch (bs : List (Int × Int)) (l : List Nat) : Prop where
  lt : ∀ a ∈ l, a < bs.length
  up : l.Pairwise (fun a b : Nat => a < b ∧ pt bs (a : Int) < pt bs (b : Int))
theorem Ch.tail {bs : List (Int × Int)} {a : Nat} {l : List Nat} (h : Ch bs (a :: l)) : Ch bs l := ⟨fun b hb => h.lt b (List.mem_cons_of_mem _ hb), (List.pairwise_cons.1 h.up).2⟩
theorem Ch.cons {bs : List (Int × Int)} {i k : Nat} {l : List Nat} (h : Ch bs (k :: l)) (hik : i < k) (hp : pt bs (i : Int) < pt bs (k : Int)) : Ch bs (i :: k :: l) := by
  have hk := List.pairwise_cons.1 h.up
  refine ⟨fun b hb => ?_, List.pairwise_cons.2 ⟨fun b hb => ?_, h.up⟩⟩
  · rcases List.mem_cons.1 hb with rfl | hb
    · have := h.lt k (by simp); omega
    · exact h.lt b hb
  · rcases List.mem_cons.1 hb with rfl | hb
    · exact ⟨hik, hp⟩
    · have := hk.1 b hb; exact ⟨by omega, by omega⟩
theorem ch_ris {bs : List (Int × Int)} (hg : anyBad bs = false) {l : List Nat} (h : Ch bs l) : Ris bs (l.map Int.ofNat) := by
  refine (ris_iff hg).2 ⟨fun x hx => ?_, ?_⟩
  · obtain ⟨a, ha, rfl⟩ := List.mem_map.1 hx
    have := h.lt a ha
    exact ⟨Int.natCast_nonneg a, by show (a : Int) < _; omega⟩
  · rw [List.pairwise_map]
    exact h.up.imp (fun {a b} h => ⟨Int.ofNat_lt.2 h.1, h.2⟩)
theorem ris_ch {bs : List (Int × Int)} (hg : anyBad bs = false) {l : List Int} (h : Ris bs l) : ∃ m, Ch bs m ∧ l = m.map Int.ofNat := by
  obtain ⟨h1, h2⟩ := (ris_iff hg).1 h
  refine ⟨l.map Int.toNat, ⟨fun a ha => ?_, ?_⟩, ?_⟩
  · obtain ⟨x, hx, rfl⟩ := List.mem_map.1 ha
    have := h1 x hx
    omega
  · rw [List.pairwise_map]
    refine List.Pairwise.imp_of_mem (fun {a b} ha hb h => ?_) h2
    have ha := h1 a ha
    have hb := h1 b hb
    exact ⟨by omega, by rw [natI ha.1, natI hb.1]; exact h.2⟩
  · rw [List.map_map]
    have : ∀ x ∈ l, (Int.ofNat ∘ Int.toNat) x = x := fun x hx => natI (h1 x hx).1
    rw [List.map_congr_left this]; simp

/-- How long lists can be that begin with a box, and go on with one below k. -/
structure Part (bs : List (Int × Int)) (i k : Nat) (m : Int) : Prop where
  ex : ∃ l, Ch bs (i :: l) ∧ (∀ b ∈ l.head?, b < k) ∧ (l.length : Int) + 1 = m
  le : ∀ l, Ch bs (i :: l) → (∀ b ∈ l.head?, b < k) → (l.length : Int) + 1 ≤ m
def Long (bs : List (Int × Int)) (i : Nat) (m : Int) : Prop := Part bs i bs.length m
theorem Part.one {bs : List (Int × Int)} {i : Nat} (hi : i < bs.length) : Part bs i (i + 1) 1 := by
  refine ⟨⟨[], ⟨fun a ha => by simp at ha; omega, List.pairwise_singleton ..⟩, fun b hb => by simp at hb, rfl⟩, fun l hl hb => ?_⟩
  cases l with
  | nil => simp
  | cons b l =>
    have h1 := hb b rfl
    have h2 := ((List.pairwise_cons.1 hl.up).1 b (by simp)).1
    omega
theorem Part.next {bs : List (Int × Int)} {i k : Nat} {m lk : Int} (h : Part bs i k m) (hik : i < k) (hl : Long bs k lk) :
    Part bs i (k + 1) (if pt bs (i : Int) < pt bs (k : Int) then max m (1 + lk) else m) := by
  obtain ⟨l0, a1, a2, a3⟩ := h.ex
  have weak : ∀ l : List Nat, (∀ b ∈ l.head?, b < k) → ∀ b ∈ l.head?, b < k + 1 := fun l hb b hm => by have := hb b hm; omega
  have hb : ∀ l, Ch bs (i :: l) → (∀ b ∈ l.head?, b < k + 1) → (∀ b ∈ l.head?, b < k) ∨ ∃ l', l = k :: l' := by
    intro l hc hb
    cases l with
    | nil => exact .inl (fun b hm => by simp at hm)
    | cons b l =>
      have := hb b rfl
      rcases Nat.lt_or_ge b k with h5 | h5
      · exact .inl (fun c hc => by simp at hc; omega)
      · right; exact ⟨l, by rw [show b = k by omega]⟩
  split
  · rename_i hp
    obtain ⟨l1, b1, _, b3⟩ := hl.ex
    have all : ∀ l : List Nat, Ch bs (k :: l) → ∀ b ∈ l.head?, b < bs.length := fun l hc b hm => hc.lt b (List.mem_cons_of_mem _ (List.mem_of_mem_head? hm))
    refine ⟨?_, fun l hc hbk => ?_⟩
    · rcases Int.le_total m (1 + lk) with h6 | h6
      · refine ⟨k :: l1, b1.cons hik hp, fun b hm => by simp at hm; omega, ?_⟩
        rw [Int.max_eq_right h6]; simp; omega
      · exact ⟨l0, a1, weak _ a2, by rw [Int.max_eq_left h6]; exact a3⟩
    · rcases hb l hc hbk with h5 | ⟨l', rfl⟩
      · have := h.le l hc h5; omega
      · have := hl.le l' hc.tail (all l' hc.tail)
        simp only [List.length_cons]; omega
  · rename_i hp
    refine ⟨⟨l0, a1, weak _ a2, a3⟩, fun l hc hbk => ?_⟩
    rcases hb l hc hbk with h5 | ⟨l', rfl⟩
    · exact h.le l hc h5
    · exact absurd ((List.pairwise_cons.1 hc.up).1 k (by simp)).2 hp

/-- How long lists can be that begin at a box or later. -/
structure Most (bs : List (Int × Int)) (i : Nat) (m : Int) : Prop where
  ex : ∃ l, Ch bs l ∧ (∀ b ∈ l.head?, i ≤ b) ∧ (l.length : Int) = m
  le : ∀ l, Ch bs l → (∀ b ∈ l.head?, i ≤ b) → (l.length : Int) ≤ m
theorem Most.none (bs : List (Int × Int)) : Most bs bs.length 0 := by
  refine ⟨⟨[], ⟨fun a h => (by cases h), List.Pairwise.nil⟩, fun b h => (by cases h), rfl⟩, fun l hl hb => ?_⟩
  cases l with
  | nil => simp
  | cons b l =>
    have := hb b rfl
    have := hl.lt b (by simp)
    omega
theorem Most.next {bs : List (Int × Int)} {i : Nat} {m li : Int} (h : Most bs (i + 1) m) (hl : Long bs i li) : Most bs i (if li > m then li else m) := by
  obtain ⟨l0, a1, a2, a3⟩ := h.ex
  obtain ⟨l1, b1, _, b3⟩ := hl.ex
  refine ⟨?_, fun l hc hb => ?_⟩
  · split
    · exact ⟨i :: l1, b1, fun b hm => by simp at hm; omega, by simp; omega⟩
    · exact ⟨l0, a1, fun b hm => by have := a2 b hm; omega, a3⟩
  · have key : (l.length : Int) ≤ m ∨ (l.length : Int) ≤ li := by
      cases l with
      | nil =>
        left
        have := h.le [] ⟨fun a h => (by cases h), List.Pairwise.nil⟩ (fun b h => (by cases h))
        exact this
      | cons b l =>
        have := hb b rfl
        by_cases e : b = i
        · subst e
          right
          have := hl.le l hc (fun c hm => hc.lt c (List.mem_cons_of_mem _ (List.mem_of_mem_head? hm)))
          simp only [List.length_cons]; omega
        · left
          exact h.le _ hc (fun c hm => by simp at hm; omega)
    split <;> omega

/-- The list that is picked, up to a box. -/
structure Greedy (bs : List (Int × Int)) (M : Int) (i : Nat) (m : Int) (o : List Nat) : Prop where
  ch : Ch bs o
  lt : ∀ a ∈ o, a < i
  len : (o.length : Int) + m = M
  m0 : 0 ≤ m
  more : 0 < m → ∃ j, i ≤ j ∧ j < bs.length ∧ Long bs j m ∧ ∀ b ∈ o.getLast?, pt bs (b : Int) < pt bs (j : Int)
  first : ∀ l, Ch bs l → (l.length : Int) = M → before (o.map Int.ofNat) ((l.take o.length).map Int.ofNat) = true ∨ (l.take o.length = o ∧ ∀ h : o.length < l.length, i ≤ l[o.length])

theorem Long.unique {bs : List (Int × Int)} {i : Nat} {m m' : Int} (h : Long bs i m) (h' : Long bs i m') : m = m' := by
  obtain ⟨l, a1, a2, a3⟩ := h.ex
  obtain ⟨l', b1, b2, b3⟩ := h'.ex
  have := h.le l' b1 b2
  have := h'.le l a1 a2
  omega
theorem ch_append {bs : List (Int × Int)} {o l : List Nat} {i : Nat} (ho : Ch bs o) (hi : ∀ a ∈ o, a < i) (hl : Ch bs (i :: l)) (hp : ∀ b ∈ o.getLast?, pt bs (b : Int) < pt bs (i : Int)) : Ch bs (o ++ i :: l) := by
  refine ⟨fun a ha => ?_, List.pairwise_append.2 ⟨ho.up, hl.up, fun a ha b hb => ?_⟩⟩
  · rcases List.mem_append.1 ha with ha | ha
    · exact ho.lt a ha
    · exact hl.lt a ha
  · have hai := hi a ha
    have hpa : pt bs (a : Int) < pt bs (i : Int) := by
      cases hL : o.getLast? with
      | none => rw [List.getLast?_eq_none_iff] at hL; subst hL; cases ha
      | some c =>
        have hc := hp c hL
        obtain ⟨o', rfl⟩ := List.getLast?_eq_some_iff.1 hL
        rcases List.mem_append.1 ha with ha | ha
        · have := (List.pairwise_append.1 ho.up).2.2 a ha c (by simp)
          omega
        · simp only [List.mem_singleton] at ha; subst ha; exact hc
    rcases List.mem_cons.1 hb with rfl | hb
    · exact ⟨hai, hpa⟩
    · have := (List.pairwise_cons.1 hl.up).1 b hb
      exact ⟨by omega, by omega⟩
theorem take_ch {bs : List (Int × Int)} {l : List Nat} (h : Ch bs l) (n : Nat) : Ch bs (l.drop n) := ⟨fun a ha => h.lt a (List.mem_of_mem_drop ha), h.up.sublist (List.drop_sublist n l)⟩

theorem Greedy.start {bs : List (Int × Int)} {M : Int} (h : Most bs 0 M) : Greedy bs M 0 M [] := by
  obtain ⟨l0, a1, a2, a3⟩ := h.ex
  refine ⟨⟨fun a h => (by cases h), List.Pairwise.nil⟩, fun a h => (by cases h), by simp, by omega, fun hm => ?_, fun l _ _ => .inr ⟨rfl, fun _ => Nat.zero_le _⟩⟩
  cases l0 with
  | nil => simp at a3; omega
  | cons j l =>
    refine ⟨j, Nat.zero_le _, a1.lt j (by simp), ⟨⟨l, a1, fun b hb => a1.lt b (List.mem_cons_of_mem _ (List.mem_of_mem_head? hb)), by simp at a3; omega⟩, fun l' hl' _ => ?_⟩, fun b hb => by cases hb⟩
    have := h.le _ hl' (fun b _ => Nat.zero_le b)
    simp only [List.length_cons] at this; omega

theorem Greedy.skip {bs : List (Int × Int)} {M : Int} {i : Nat} {m : Int} {o : List Nat} (h : Greedy bs M i m o) (hM : Most bs 0 M) (hi : i < bs.length)
    (hno : ¬ (Long bs i m ∧ 0 < m ∧ ∀ b ∈ o.getLast?, pt bs (b : Int) < pt bs (i : Int))) : Greedy bs M (i + 1) m o := by
  refine ⟨h.ch, fun a ha => by have := h.lt a ha; omega, h.len, h.m0, fun hm => ?_, fun l hl hlen => ?_⟩
  · obtain ⟨j, h1, h2, h3, h4⟩ := h.more hm
    refine ⟨j, ?_, h2, h3, h4⟩
    rcases Nat.lt_or_ge i j with h5 | h5
    · exact h5
    · obtain rfl : i = j := by omega
      exact absurd ⟨h3, hm, h4⟩ hno
  · rcases h.first l hl hlen with h1 | ⟨h1, h2⟩
    · exact .inl h1
    · right
      refine ⟨h1, fun hlt => ?_⟩
      have h3 := h2 hlt
      rcases Nat.lt_or_ge i l[o.length] with h5 | h5
      · exact h5
      · exfalso
        have e : l[o.length] = i := by omega
        have hm : 0 < m := by have := h.len; omega
        have hd : l.drop o.length = i :: l.drop (o.length + 1) := by rw [List.drop_eq_getElem_cons hlt, e]
        have hcd : Ch bs (i :: l.drop (o.length + 1)) := by rw [← hd]; exact take_ch hl _
        have hld : ((l.drop (o.length + 1)).length : Int) + 1 = m := by
          have := h.len
          rw [List.length_drop]; omega
        have hp : ∀ b ∈ o.getLast?, pt bs (b : Int) < pt bs (i : Int) := by
          intro b hb
          obtain ⟨o', ho'⟩ := List.getLast?_eq_some_iff.1 hb
          have hl2 : l = o ++ i :: l.drop (o.length + 1) := by
            rw [← hd]
            conv => lhs; rw [← List.take_append_drop o.length l, h1]
          have hup := hl.up
          rw [hl2] at hup
          exact ((List.pairwise_append.1 hup).2.2 b (by rw [ho']; simp) i (by simp)).2
        refine hno ⟨⟨⟨_, hcd, fun b hb => hcd.lt b (List.mem_cons_of_mem _ (List.mem_of_mem_head? hb)), hld⟩, fun l' hl' _ => ?_⟩, hm, hp⟩
        have := hM.le _ (ch_append h.ch h.lt hl' hp) (fun b _ => Nat.zero_le b)
        simp only [List.length_append, List.length_cons] at this
        have := h.len
        omega

theorem Greedy.take {bs : List (Int × Int)} {M : Int} {i : Nat} {m : Int} {o : List Nat} (h : Greedy bs M i m o) (hi : i < bs.length) (hL : Long bs i m) (hm : 0 < m)
    (hp : ∀ b ∈ o.getLast?, pt bs (b : Int) < pt bs (i : Int)) : Greedy bs M (i + 1) (m - 1) (o ++ [i]) := by
  refine ⟨ch_append h.ch h.lt ⟨fun a ha => by simp at ha; omega, List.pairwise_singleton ..⟩ hp, fun a ha => ?_, by simp; have := h.len; omega, by omega, fun hm1 => ?_, fun l hl hlen => ?_⟩
  · rcases List.mem_append.1 ha with ha | ha
    · have := h.lt a ha; omega
    · simp only [List.mem_singleton] at ha; omega
  · obtain ⟨l, a1, a2, a3⟩ := hL.ex
    cases l with
    | nil => simp at a3; omega
    | cons j l =>
      have hij := (List.pairwise_cons.1 a1.up).1 j (by simp)
      refine ⟨j, by omega, a1.lt j (by simp), ⟨⟨l, a1.tail, fun b hb => a1.lt b (List.mem_cons_of_mem _ (List.mem_cons_of_mem _ (List.mem_of_mem_head? hb))), by simp at a3; omega⟩, fun l' hl' _ => ?_⟩, fun b hb => ?_⟩
      · have hc := hl'.cons hij.1 hij.2
        have := hL.le _ hc (fun b hb => by simp at hb; have := a1.lt j (by simp); omega)
        simp only [List.length_cons] at this; omega
      · simp at hb; subst hb; exact hij.2
  · have hlt : o.length < l.length := by have := h.len; omega
    rcases h.first l hl hlen with h1 | ⟨h1, h2⟩
    · left
      have e : l.take (o.length + 1) = l.take o.length ++ [l[o.length]] := List.take_succ_eq_append_getElem hlt
      rw [List.length_append, List.length_singleton, e, List.map_append, List.map_append]
      have hlen2 : (o.map Int.ofNat).length = ((l.take o.length).map Int.ofNat).length := by simp; omega
      have key : ∀ (a b c d : List Int), a.length = b.length → before a b = true → before (a ++ c) (b ++ d) = true := by
        intro a
        induction a with
        | nil => intro b c d hl hb; cases b with
          | nil => simp [before] at hb
          | cons y b => simp at hl
        | cons x a ih =>
          intro b c d hl hb
          cases b with
          | nil => simp at hl
          | cons y b =>
            simp only [before, List.cons_append] at hb ⊢
            split
            · rename_i e; rw [if_pos e] at hb; exact ih b c d (by simpa using hl) hb
            · rename_i e; rw [if_neg e] at hb; exact hb
      exact key _ _ _ _ hlen2 h1
    · have h3 := h2 hlt
      have e : l.take (o.length + 1) = o ++ [l[o.length]] := by rw [List.take_succ_eq_append_getElem hlt, h1]
      rw [List.length_append, List.length_singleton, e]
      by_cases e2 : l[o.length] = i
      · right
        rw [e2]
        refine ⟨rfl, fun hlt2 => ?_⟩
        have := (List.pairwise_iff_getElem.1 hl.up (o.length) (o.length + 1) hlt hlt2 (by omega)).1
        omega
      · left
        rw [List.map_append, List.map_append, before_append]
        have : i < l[o.length] := by omega
        simp [before]
        omega

theorem Greedy.done {bs : List (Int × Int)} (hg : anyBad bs = false) {M : Int} {m : Int} {o : List Nat} (h : Greedy bs M bs.length m o) (hM : Most bs 0 M) : o.map Int.ofNat = risingOf bs := by
  have hm : m = 0 := by
    have h0 := h.m0
    rcases Int.lt_or_eq_of_le h0 with h1 | h1
    · obtain ⟨j, h2, h3, _⟩ := h.more h1
      omega
    · exact h1.symm
  have hlen := h.len
  refine risingOf_unique (ch_ris hg h.ch) (fun l' hl' => ?_)
  obtain ⟨l, hl, rfl⟩ := ris_ch hg hl'
  have hle := hM.le l hl (fun b _ => Nat.zero_le b)
  rw [← Bool.not_eq_true]
  intro hb
  simp only [betR, Bool.or_eq_true, Bool.and_eq_true, decide_eq_true_eq, List.length_map] at hb
  rcases hb with hb | ⟨hb1, hb2⟩
  · omega
  · have ht : l.take o.length = l := List.take_of_length_le (by omega)
    rcases h.first l hl (by omega) with h1 | ⟨h1, _⟩
    · rw [ht] at h1
      have := before_trans _ _ _ hb2 h1
      rw [before_irrefl] at this; cases this
    · rw [ht] at h1
      rw [h1, before_irrefl] at hb2; cases hb2

theorem set_other {A : List Int} {i k : Nat} {v : Int} (h : i ≠ k) : (A.set i v).getD k 0 = A.getD k 0 := getD_set_ne h

theorem k66 (hG : Good Try.prog (envOf [(83, mkC [v83])])) : v66.Kept Try.prog 66 := by
  rintro ⟨bs, st, fl, ⟨⟩⟩ hpre k hk
  change List (Int × Int) at bs
  change Int at st fl
  refine aspec hmix hG Try.func66 tx66 (Eq.mpr (eq66 bs st fl k) ?_)
  replace hk : k (.reg 0 false) [.sl (.int .i64) (risingOf bs)] := hk
  unfold vc66
  obtain ⟨hb, hg⟩ := hpre
  have hb : bs.length ≤ 16 := hb
  have hg : anyBad bs = false := hg
  refine ⟨⟨by omega, rfl, by simp [big]; omega⟩, fits64 (by omega) (by omega), ?_⟩
  refine Loop.intro (fun x => ∃ (t : Nat) (most : Int) (A : List Int), x = (bs, st, fl, ((bs.length : Nat) : Int), most, ((bs.length : Nat) : Int) - 1 - (t : Int), A, ()) ∧ t ≤ bs.length ∧ A.length = bs.length ∧ (∀ k, bs.length - t ≤ k → k < bs.length → Long bs k (A.getD k 0)) ∧ Most bs (bs.length - t) most) (fun x => (x.2.2.2.2.2.1 + 1).toNat) ?_ ⟨0, 0, List.replicate bs.length 0, ?_, by omega, by simp, fun k h1 h2 => by omega, Most.none bs⟩
  rotate_left
  · simp
  rintro x K ⟨t, most, A, rfl, ht, hA, hlong, hmost⟩ hK
  dsimp only
  rw [br_decide]
  refine ⟨fun h => ?_, fun h => ?_⟩
  · obtain ⟨i, hi⟩ : ∃ i : Nat, i + t + 1 = bs.length := ⟨bs.length - t - 1, by omega⟩
    have ei : ((bs.length : Nat) : Int) - 1 - (t : Int) = (i : Int) := by omega
    rw [ei]
    have hilt : i < bs.length := by omega
    have hnt : bs.length - t = i + 1 := by omega
    rw [hnt] at hlong hmost
    simp only [Int.toNat_natCast]
    have hAi : i < A.length := by omega
    refine ⟨⟨by omega, hAi⟩, hAi, fits64 (by omega) (by omega), ?_⟩
    refine Loop.intro (fun x => ∃ (k : Nat) (B : List Int), x = (bs, st, fl, ((bs.length : Nat) : Int), most, (i : Int), (k : Int), B, ()) ∧ i < k ∧ k ≤ bs.length ∧ B.length = bs.length ∧ (∀ j, i < j → B.getD j 0 = A.getD j 0) ∧ Part bs i k (B.getD i 0)) (fun x => bs.length - x.2.2.2.2.2.2.1.toNat) ?_ ⟨i + 1, A.set i 1, rfl, by omega, by omega, by simpa using hA, fun j hj => set_other (by omega), by rw [getD_set_self hAi]; exact Part.one hilt⟩
    rintro x K2 ⟨k, B, rfl, hik, hk', hB, hsame, hpart⟩ hK2
    dsimp only
    rw [br_decide]
    have hBi : i < B.length := by omega
    simp only [Int.toNat_natCast]
    refine ⟨fun h2 => ⟨(show inBoxes bs (k : Int) ∧ inBoxes bs (i : Int) from ⟨⟨by omega, by omega⟩, ⟨by omega, by omega⟩⟩), ?_⟩, fun h2 => ⟨⟨by omega, hBi⟩, hBi, fits64 (by omega) (by omega), ?_⟩⟩
    · have hklt : k < bs.length := by omega
      have hBk : k < B.length := by omega
      have hLk := hlong k (by omega) hklt
      rw [← hsame k hik] at hLk
      have hn := hpart.next hik hLk
      have hbnd := hpart.le
      have dec : bs.length - ((k : Int) + 1).toNat < bs.length - ((k : Int)).toNat := by omega
      have small : ∀ j m, Long bs j m → m ≤ 17 := by
        intro j m hm
        obtain ⟨l, a1, _, a3⟩ := hm.ex
        have := fewest_le hg (ch_ris hg a1)
        have h3 := ports_le bs
        unfold fewestOf at this
        simp only [List.length_map, List.length_cons] at this
        omega
      have pos : 1 ≤ B.getD k 0 := by
        obtain ⟨l, _, _, a3⟩ := hLk.ex; omega
      have hs := small k _ hLk
      rw [br_not]
      simp only [liesOn, decide_eq_false_iff_not, decide_eq_true_eq]
      rw [getD_at hBk] at hs pos
      refine ⟨fun h3 => ⟨⟨by omega, hBi⟩, hBi, ⟨by omega, hBk⟩, hBk, fits64 (by omega) (by omega), ⟨by omega, hBi⟩, hBi, fits64 (by omega) (by omega), hK2 _ ⟨k + 1, _, rfl, by omega, hklt, by simpa using hB, fun j hj => ?_, ?_⟩ dec⟩, fun h3 => ⟨fits64 (by omega) (by omega), hK2 _ ⟨k + 1, B, rfl, by omega, hklt, hB, hsame, ?_⟩ dec⟩⟩
      · rw [set_other (by omega)]; exact hsame j hj
      · rw [getD_set_self hBi]
        rw [if_pos (by omega), getD_at hBk, getD_at hBi, max_if] at hn
        exact hn
      · rw [if_neg (by omega)] at hn; exact hn
    · have hk2 : k = bs.length := by omega
      rw [hk2] at hpart
      have hm2 := Most.next hmost hpart
      rw [getD_at hBi] at hm2
      refine hK _ ⟨t + 1, (if B[i] > most then B[i] else most), B, ?_, by omega, hB, fun j h1 h2 => ?_, ?_⟩ ?_
      · have : ((bs.length : Nat) : Int) - 1 - ((t + 1 : Nat) : Int) = (i : Int) - 1 := by omega
        rw [this]
      · by_cases e : j = i
        · subst e; exact hpart
        · rw [hsame j (by omega)]
          exact hlong j (by omega) h2
      · have : bs.length - (t + 1) = i := by omega
        rw [this]; exact hm2
      · show ((i : Int) - 1 + 1).toNat < (((bs.length : Nat) : Int) - 1 - (t : Int) + 1).toNat
        omega
  · have ht2 : bs.length - t = 0 := by omega
    rw [ht2] at hlong hmost
    clear hK
    refine Loop.intro (fun x => ∃ (i : Nat) (m : Int) (o : List Nat), x = (bs, st, fl, m, ((bs.length : Nat) : Int), (i : Int), A, o.map Int.ofNat, ()) ∧ i ≤ bs.length ∧ Greedy bs most i m o) (fun x => bs.length - x.2.2.2.2.2.1.toNat) ?_ ⟨0, most, [], rfl, by omega, Greedy.start hmost⟩
    rintro x K ⟨i, m, o, rfl, hi, hG⟩ hK
    dsimp only
    rw [br_decide]
    refine ⟨fun h2 => ?_, fun h2 => ?_⟩
    · have hilt : i < bs.length := by omega
      have hAi : i < A.length := by omega
      have hLi := hlong i (Nat.zero_le _) hilt
      rw [getD_at hAi] at hLi
      have dec : bs.length - ((i : Int) + 1).toNat < bs.length - ((i : Int)).toNat := by omega
      have hol : o.length ≤ 16 := by
        have := fewest_le hg (ch_ris hg hG.ch)
        have h3 := ports_le bs
        unfold fewestOf at this
        simp only [List.length_map] at this
        omega
      have hm17 : m ≤ 17 := by
        obtain ⟨l, a1, _, a3⟩ := hmost.ex
        have := fewest_le hg (ch_ris hg a1)
        have h3 := ports_le bs
        unfold fewestOf at this
        simp only [List.length_map] at this
        have := hG.len
        omega
      have skip : ¬ (Long bs i m ∧ 0 < m ∧ ∀ b ∈ o.getLast?, pt bs (b : Int) < pt bs (i : Int)) → fitsK .i64 ((i : Int) + 1) ∧ K (bs, st, fl, m, ((bs.length : Nat) : Int), (i : Int) + 1, A, o.map Int.ofNat, ()) :=
        fun hno => ⟨fits64 (by omega) (by omega), hK _ ⟨i + 1, m, o, rfl, hilt, hG.skip hmost hilt hno⟩ dec⟩
      have eo : (o ++ [i]).map Int.ofNat = (List.take ((((o.map Int.ofNat).length : Nat) : Int)).toNat (List.drop 0 (o.map Int.ofNat))) ++ [(i : Int)] := by
        rw [Int.toNat_natCast, List.drop_zero, List.take_length, List.map_append]; rfl
      simp only [Int.toNat_natCast]
      refine ⟨⟨by omega, hAi⟩, hAi, ?_⟩
      rw [br_bt]
      simp only [beq_iff_eq]
      refine ⟨fun h3 => ?_, fun h3 => skip (fun hh => ?_)⟩
      rotate_left
      · have := hh.1.unique hLi
        rw [this] at h3
        simp at h3
      rw [h3] at hLi
      rw [br_bt]
      simp only [decide_eq_true_eq, decide_eq_false_iff_not]
      refine ⟨fun h4 => ?_, fun h4 => skip (fun hh => h4 hh.2.1)⟩
      rw [br_bf]
      simp only [beq_iff_eq, beq_eq_false_iff_ne, ne_eq, List.length_map]
      refine ⟨fun h5 => ?_, fun h5 => ?_⟩
      · have hpos : 0 < o.length := by omega
        have el : (((o.length : Nat) : Int) - 1).toNat = o.length - 1 := by omega
        have hlast : o.getLast? = some o[o.length - 1] := by rw [List.getLast?_eq_getElem?, List.getElem?_eq_getElem (by omega)]
        have hlb := hG.ch.lt _ (List.getElem_mem (show o.length - 1 < o.length by omega))
        have eg : (o.map Int.ofNat)[o.length - 1]'(by simp; omega) = ((o[o.length - 1] : Nat) : Int) := by simp
        simp only [el, eg]
        refine ⟨fits64 (by omega) (by omega), ⟨by omega, by omega⟩, by omega, (show inBoxes bs (i : Int) ∧ inBoxes bs ((o[o.length - 1] : Nat) : Int) from ⟨⟨by omega, by omega⟩, ⟨by omega, by omega⟩⟩), ?_⟩
        rw [br_not]
        simp only [liesOn, decide_eq_false_iff_not, decide_eq_true_eq]
        refine ⟨fun h6 => ⟨⟨by omega, by omega, trivial⟩, by simp [big]; omega, by simp, fits64 (by omega) (by omega), fits64 (by omega) (by omega), hK _ ⟨i + 1, m - 1, o ++ [i], ?_, hilt, hG.take hilt hLi h4 (fun b hb => ?_)⟩ dec⟩, fun h6 => skip (fun hh => ?_)⟩
        · rw [eo]; simp
        · rw [hlast] at hb; cases hb; omega
        · have := hh.2.2 _ hlast; omega
      · have hnil : o = [] := List.eq_nil_of_length_eq_zero (by simpa using h5)
        refine ⟨⟨by omega, by omega, trivial⟩, by simp [big]; omega, by simp, fits64 (by omega) (by omega), fits64 (by omega) (by omega), hK _ ⟨i + 1, m - 1, o ++ [i], ?_, hilt, hG.take hilt hLi h4 (fun b hb => ?_)⟩ dec⟩
        · rw [eo]; simp
        · rw [hnil] at hb; cases hb
    · have e : i = bs.length := by omega
      subst e
      rw [hG.done hg hmost]
      exact hk
end Go.Abs.Ship
end

