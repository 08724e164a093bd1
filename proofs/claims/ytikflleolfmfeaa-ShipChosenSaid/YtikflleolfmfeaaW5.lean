/- Part 5 of the road to this seat's statements: lemmas about a small interpreter over the model's code, and about the functions that it is used on. No condition of its own. -/
import Derived.Test.YtikflleolfmfeaaProg
import Derived.Test.YtikflleolfmfeaaW4

section
/- Conditions and their equations, printed by a program. -/
open Go.Proofs
set_option maxRecDepth 100000
set_option linter.unusedVariables false
namespace Go.Abs.Ship
def vc16 (bs : List (Int × Int)) (st fl : Int) (k : AVal → List Cont → Prop) : Prop :=
  (k (Go.Abs.AVal.bool (decide ((((List.length bs) : Nat) : Int) > (16 : Int)))) [])
theorem eq16 (bs : List (Int × Int)) (st fl : Int) (k : AVal → List Cont → Prop) : awpF (envOf []) Try.prog kt 16 false Try.f16 (v16.args (bs, st, fl, ())) (v16.conts (bs, st, fl, ())) k = vc16 bs st fl k := by kernel_rfl
theorem tx16 : (Try.f16.body.map Code.textsOk).getD true = true := by kernel_rfl

def vc17 (l : List Int) (k : AVal → List Cont → Prop) : Prop :=
  (k (Go.Abs.AVal.bool (decide ((((List.length l) : Nat) : Int) > (20 : Int)))) [])
theorem eq17 (l : List Int) (k : AVal → List Cont → Prop) : awpF (envOf []) Try.prog kt 17 false Try.f17 (v17.args (l, ())) (v17.conts (l, ())) k = vc17 l k := by kernel_rfl
theorem tx17 : (Try.f17.body.map Code.textsOk).getD true = true := by kernel_rfl

def vc30 (a b : List Int) (k : AVal → List Cont → Prop) : Prop :=
  br (((((List.length a) : Nat) : Int) != (((List.length b) : Nat) : Int)))
   ((k (Go.Abs.AVal.bool Bool.false) []))
   (Go.Abs.Loop (σ := ((List Int) × ((List Int) × (Int × Unit)))) (fun K3 x3 =>
     br ((decide (x3.2.2.1 < (((List.length x3.1) : Nat) : Int))))
      (∃ h5 : (((0 : Int) ≤ x3.2.2.1) ∧ ((Int.toNat x3.2.2.1) < (List.length x3.1))),
      ∃ h6 : (((0 : Int) ≤ x3.2.2.1) ∧ ((Int.toNat x3.2.2.1) < (List.length x3.2.1))),
      br (((x3.1[(Int.toNat x3.2.2.1)]'h5.2) != (x3.2.1[(Int.toNat x3.2.2.1)]'h6.2)))
       ((k (Go.Abs.AVal.bool Bool.false) []))
       ((Go.Abs.fitsK Go.IntKind.i64 (x3.2.2.1 + (1 : Int))) ∧
       (K3 (x3.1, (x3.2.1, ((x3.2.2.1 + (1 : Int)), ()))))))
      ((k (Go.Abs.AVal.bool Bool.true) []))) ((a, (b, ((0 : Int), ())))))
theorem eq30 (a b : List Int) (k : AVal → List Cont → Prop) : awpF (envOf []) Try.prog kt 30 false Try.f30 (v30.args (a, b, ())) (v30.conts (a, b, ())) k = vc30 a b k := by kernel_rfl
theorem tx30 : (Try.f30.body.map Code.textsOk).getD true = true := by kernel_rfl

def vc46 (a b : List Int) (k : AVal → List Cont → Prop) : Prop :=
  Go.Abs.Loop (σ := ((List Int) × ((List Int) × (Int × Unit)))) (fun K3 x3 =>
    br (((decide (x3.2.2.1 < (((List.length x3.1) : Nat) : Int))) == Bool.true))
     (br ((decide (x3.2.2.1 < (((List.length x3.2.1) : Nat) : Int))))
      (∃ h5 : (((0 : Int) ≤ x3.2.2.1) ∧ ((Int.toNat x3.2.2.1) < (List.length x3.1))),
      ∃ h6 : (((0 : Int) ≤ x3.2.2.1) ∧ ((Int.toNat x3.2.2.1) < (List.length x3.2.1))),
      br (((x3.1[(Int.toNat x3.2.2.1)]'h5.2) != (x3.2.1[(Int.toNat x3.2.2.1)]'h6.2)))
       (∃ h7 : (((0 : Int) ≤ x3.2.2.1) ∧ ((Int.toNat x3.2.2.1) < (List.length x3.1))),
       ∃ h8 : (((0 : Int) ≤ x3.2.2.1) ∧ ((Int.toNat x3.2.2.1) < (List.length x3.2.1))),
       (k (Go.Abs.AVal.bool (decide ((x3.1[(Int.toNat x3.2.2.1)]'h7.2) < (x3.2.1[(Int.toNat x3.2.2.1)]'h8.2)))) []))
       ((Go.Abs.fitsK Go.IntKind.i64 (x3.2.2.1 + (1 : Int))) ∧
       (K3 (x3.1, (x3.2.1, ((x3.2.2.1 + (1 : Int)), ()))))))
      ((k (Go.Abs.AVal.bool Bool.false) [])))
     ((k (Go.Abs.AVal.bool Bool.false) []))) ((a, (b, ((0 : Int), ()))))
theorem eq46 (a b : List Int) (k : AVal → List Cont → Prop) : awpF (envOf []) Try.prog kt 46 false Try.f46 (v46.args (a, b, ())) (v46.conts (a, b, ())) k = vc46 a b k := by kernel_rfl
theorem tx46 : (Try.f46.body.map Code.textsOk).getD true = true := by kernel_rfl

def vc72 (a b : List Int) (k : AVal → List Cont → Prop) : Prop :=
  Go.Abs.Loop (σ := ((List Int) × ((List Int) × (Int × Unit)))) (fun K3 x3 =>
    br (((decide (x3.2.2.1 < (((List.length x3.1) : Nat) : Int))) == Bool.true))
     (br ((decide (x3.2.2.1 < (((List.length x3.2.1) : Nat) : Int))))
      (∃ h5 : (((0 : Int) ≤ x3.2.2.1) ∧ ((Int.toNat x3.2.2.1) < (List.length x3.1))),
      ∃ h6 : (((0 : Int) ≤ x3.2.2.1) ∧ ((Int.toNat x3.2.2.1) < (List.length x3.2.1))),
      br (((x3.1[(Int.toNat x3.2.2.1)]'h5.2) != (x3.2.1[(Int.toNat x3.2.2.1)]'h6.2)))
       (∃ h7 : (((0 : Int) ≤ x3.2.2.1) ∧ ((Int.toNat x3.2.2.1) < (List.length x3.1))),
       ∃ h8 : (((0 : Int) ≤ x3.2.2.1) ∧ ((Int.toNat x3.2.2.1) < (List.length x3.2.1))),
       (k (Go.Abs.AVal.bool (decide ((x3.1[(Int.toNat x3.2.2.1)]'h7.2) < (x3.2.1[(Int.toNat x3.2.2.1)]'h8.2)))) []))
       ((Go.Abs.fitsK Go.IntKind.i64 (x3.2.2.1 + (1 : Int))) ∧
       (K3 (x3.1, (x3.2.1, ((x3.2.2.1 + (1 : Int)), ()))))))
      ((k (Go.Abs.AVal.bool (decide ((((List.length x3.1) : Nat) : Int) < (((List.length x3.2.1) : Nat) : Int)))) [])))
     ((k (Go.Abs.AVal.bool (decide ((((List.length x3.1) : Nat) : Int) < (((List.length x3.2.1) : Nat) : Int)))) []))) ((a, (b, ((0 : Int), ()))))
theorem eq72 (a b : List Int) (k : AVal → List Cont → Prop) : awpF (envOf []) Try.prog kt 72 false Try.f72 (v72.args (a, b, ())) (v72.conts (a, b, ())) k = vc72 a b k := by kernel_rfl
theorem tx72 : (Try.f72.body.map Code.textsOk).getD true = true := by kernel_rfl

def vc47 (l : List Int) (b : Int) (k : AVal → List Cont → Prop) : Prop :=
  Go.Abs.Loop (σ := ((List Int) × (Int × (Int × Unit)))) (fun K3 x3 =>
    br ((decide (x3.2.2.1 < (((List.length x3.1) : Nat) : Int))))
     (∃ h5 : (((0 : Int) ≤ x3.2.2.1) ∧ ((Int.toNat x3.2.2.1) < (List.length x3.1))),
     br (((decide ((x3.1[(Int.toNat x3.2.2.1)]'h5.2) < (0 : Int))) == Bool.false))
      (∃ h6 : (((0 : Int) ≤ x3.2.2.1) ∧ ((Int.toNat x3.2.2.1) < (List.length x3.1))),
      br (((decide ((x3.1[(Int.toNat x3.2.2.1)]'h6.2) ≥ x3.2.1)) == Bool.false))
       (br (((decide (x3.2.2.1 > (0 : Int))) == Bool.true))
        (∃ h7 : (((0 : Int) ≤ x3.2.2.1) ∧ ((Int.toNat x3.2.2.1) < (List.length x3.1))),
        (Go.Abs.fitsK Go.IntKind.i64 (x3.2.2.1 - (1 : Int))) ∧
        ∃ h8 : (((0 : Int) ≤ (x3.2.2.1 - (1 : Int))) ∧ ((Int.toNat (x3.2.2.1 - (1 : Int))) < (List.length x3.1))),
        br ((decide ((x3.1[(Int.toNat x3.2.2.1)]'h7.2) ≤ (x3.1[(Int.toNat (x3.2.2.1 - (1 : Int)))]'h8.2))))
         ((k (Go.Abs.AVal.bool Bool.false) []))
         ((Go.Abs.fitsK Go.IntKind.i64 (x3.2.2.1 + (1 : Int))) ∧
         (K3 (x3.1, (x3.2.1, ((x3.2.2.1 + (1 : Int)), ()))))))
        ((Go.Abs.fitsK Go.IntKind.i64 (x3.2.2.1 + (1 : Int))) ∧
        (K3 (x3.1, (x3.2.1, ((x3.2.2.1 + (1 : Int)), ()))))))
       ((k (Go.Abs.AVal.bool Bool.false) [])))
      ((k (Go.Abs.AVal.bool Bool.false) [])))
     ((k (Go.Abs.AVal.bool Bool.true) []))) ((l, (b, ((0 : Int), ()))))
theorem eq47 (l : List Int) (b : Int) (k : AVal → List Cont → Prop) : awpF (envOf []) Try.prog kt 47 false Try.f47 (v47.args (l, b, ())) (v47.conts (l, b, ())) k = vc47 l b k := by kernel_rfl
theorem tx47 : (Try.f47.body.map Code.textsOk).getD true = true := by kernel_rfl

def vc44 (bits below : Int) (k : AVal → List Cont → Prop) : Prop :=
  Go.Abs.Loop (σ := (Int × (Int × (Int × ((List Int) × Unit))))) (fun K3 x3 =>
    br ((decide (x3.2.2.1 < x3.2.1)))
     (((0 : Int) ≤ x3.2.2.1) ∧
     br (((Go.Abs.bitsA Go.BinOp.and Go.IntKind.i64 (Go.Abs.shrA Go.IntKind.i64 x3.1 x3.2.2.1) (1 : Int)) == (1 : Int)))
      ((((List.length x3.2.2.2.1) + (List.length (x3.2.2.1 :: ([] : List Int)))) ≤ Go.Abs.big) ∧
      (Go.Abs.fitsK Go.IntKind.i64 (x3.2.2.1 + (1 : Int))) ∧
      (K3 (x3.1, (x3.2.1, ((x3.2.2.1 + (1 : Int)), ((x3.2.2.2.1 ++ (x3.2.2.1 :: ([] : List Int))), ()))))))
      ((Go.Abs.fitsK Go.IntKind.i64 (x3.2.2.1 + (1 : Int))) ∧
      (K3 (x3.1, (x3.2.1, ((x3.2.2.1 + (1 : Int)), (x3.2.2.2.1, ())))))))
     ((k (Go.Abs.AVal.reg 0 Bool.false) ((Go.Abs.Cont.sl (Go.Abs.Ty.int Go.IntKind.i64) x3.2.2.2.1) :: [])))) ((bits, (below, ((0 : Int), (([] : List Int), ())))))
theorem eq44 (bits below : Int) (k : AVal → List Cont → Prop) : awpF (envOf []) Try.prog kt 44 false Try.f44 (v44.args (bits, below, ())) (v44.conts (bits, below, ())) k = vc44 bits below k := by kernel_rfl
theorem tx44 : (Try.f44.body.map Code.textsOk).getD true = true := by kernel_rfl

def vc45 (bs : List (Int × Int)) (s : List Int) (k : AVal → List Cont → Prop) : Prop :=
  Go.Abs.Loop (σ := ((List (Int × Int)) × ((List Int) × (Int × Unit)))) (fun K3 x3 =>
    br ((decide (x3.2.2.1 < (((List.length x3.2.1) : Nat) : Int))))
     (Go.Abs.Loop (σ := ((List (Int × Int)) × ((List Int) × (Int × (Int × Unit))))) (fun K5 x5 =>
       br ((decide (x5.2.2.2.1 < x5.2.2.1)))
        (∃ h7 : (((0 : Int) ≤ x5.2.2.2.1) ∧ ((Int.toNat x5.2.2.2.1) < (List.length x5.2.1))),
        ∃ h8 : (((0 : Int) ≤ x5.2.2.1) ∧ ((Int.toNat x5.2.2.1) < (List.length x5.2.1))),
        br ((((x5.2.1[(Int.toNat x5.2.2.2.1)]'h7.2) == (x5.2.1[(Int.toNat x5.2.2.1)]'h8.2)) == Bool.true))
         (∃ h9 : (((0 : Int) ≤ x5.2.2.2.1) ∧ ((Int.toNat x5.2.2.2.1) < (List.length x5.1))),
         ∃ h10 : (((0 : Int) ≤ x5.2.2.1) ∧ ((Int.toNat x5.2.2.1) < (List.length x5.1))),
         br ((decide ((x5.1[(Int.toNat x5.2.2.2.1)]'h9.2).1 < (x5.1[(Int.toNat x5.2.2.1)]'h10.2).1)))
          ((k (Go.Abs.AVal.bool Bool.false) []))
          ((Go.Abs.fitsK Go.IntKind.i64 (x5.2.2.2.1 + (1 : Int))) ∧
          (K5 (x5.1, (x5.2.1, (x5.2.2.1, ((x5.2.2.2.1 + (1 : Int)), ())))))))
         ((Go.Abs.fitsK Go.IntKind.i64 (x5.2.2.2.1 + (1 : Int))) ∧
         (K5 (x5.1, (x5.2.1, (x5.2.2.1, ((x5.2.2.2.1 + (1 : Int)), ())))))))
        ((Go.Abs.fitsK Go.IntKind.i64 (x5.2.2.1 + (1 : Int))) ∧
        (K3 (x5.1, (x5.2.1, ((x5.2.2.1 + (1 : Int)), ())))))) ((x3.1, (x3.2.1, (x3.2.2.1, ((0 : Int), ()))))))
     ((k (Go.Abs.AVal.bool Bool.true) []))) ((bs, (s, ((0 : Int), ()))))
theorem eq45 (bs : List (Int × Int)) (s : List Int) (k : AVal → List Cont → Prop) : awpF (envOf []) Try.prog kt 45 false Try.f45 (v45.args (bs, s, ())) (v45.conts (bs, s, ())) k = vc45 bs s k := by kernel_rfl
theorem tx45 : (Try.f45.body.map Code.textsOk).getD true = true := by kernel_rfl

def vc48 (bs : List (Int × Int)) (l : List Int) (k : AVal → List Cont → Prop) : Prop :=
  Go.Abs.Loop (σ := ((List (Int × Int)) × ((List Int) × (Int × ((List (Int × Int)) × Unit))))) (fun K3 x3 =>
    br ((decide (x3.2.2.1 < (((List.length x3.1) : Nat) : Int))))
     (Go.Abs.Loop (σ := ((List (Int × Int)) × ((List Int) × (Int × (Bool × (Int × ((List (Int × Int)) × Unit))))))) (fun K5 x5 =>
       br ((decide (x5.2.2.2.2.1 < (((List.length x5.2.1) : Nat) : Int))))
        (br ((x5.2.2.2.1 == Bool.false))
         (∃ h7 : (((0 : Int) ≤ x5.2.2.2.2.1) ∧ ((Int.toNat x5.2.2.2.2.1) < (List.length x5.2.1))),
         (Go.Abs.fitsK Go.IntKind.i64 (x5.2.2.2.2.1 + (1 : Int))) ∧
         (K5 (x5.1, (x5.2.1, (x5.2.2.1, (((x5.2.1[(Int.toNat x5.2.2.2.2.1)]'h7.2) == x5.2.2.1), ((x5.2.2.2.2.1 + (1 : Int)), (x5.2.2.2.2.2.1, ()))))))))
         ((Go.Abs.fitsK Go.IntKind.i64 (x5.2.2.2.2.1 + (1 : Int))) ∧
         (K5 (x5.1, (x5.2.1, (x5.2.2.1, (Bool.true, ((x5.2.2.2.2.1 + (1 : Int)), (x5.2.2.2.2.2.1, ())))))))))
        (br ((Bool.not x5.2.2.2.1))
         (∃ h7 : (((0 : Int) ≤ x5.2.2.1) ∧ ((Int.toNat x5.2.2.1) < (List.length x5.1))),
         (((List.length x5.2.2.2.2.2.1) + (List.length (((x5.1[(Int.toNat x5.2.2.1)]'h7.2).1, (x5.1[(Int.toNat x5.2.2.1)]'h7.2).2) :: ([] : List (Int × Int))))) ≤ Go.Abs.big) ∧
         (Go.Abs.fitsK Go.IntKind.i64 (x5.2.2.1 + (1 : Int))) ∧
         (K3 (x5.1, (x5.2.1, ((x5.2.2.1 + (1 : Int)), ((x5.2.2.2.2.2.1 ++ (((x5.1[(Int.toNat x5.2.2.1)]'h7.2).1, (x5.1[(Int.toNat x5.2.2.1)]'h7.2).2) :: ([] : List (Int × Int)))), ()))))))
         ((Go.Abs.fitsK Go.IntKind.i64 (x5.2.2.1 + (1 : Int))) ∧
         (K3 (x5.1, (x5.2.1, ((x5.2.2.1 + (1 : Int)), (x5.2.2.2.2.2.1, ())))))))) ((x3.1, (x3.2.1, (x3.2.2.1, (Bool.false, ((0 : Int), (x3.2.2.2.1, ()))))))))
     ((k (Go.Abs.AVal.reg 0 Bool.false) ((Go.Abs.Cont.sl (Go.Abs.Ty.pair (Go.Abs.Ty.int Go.IntKind.i64) (Go.Abs.Ty.int Go.IntKind.i64)) x3.2.2.2.1) :: [])))) ((bs, (l, ((0 : Int), (([] : List (Int × Int)), ())))))
theorem eq48 (bs : List (Int × Int)) (l : List Int) (k : AVal → List Cont → Prop) : awpF (envOf []) Try.prog kt 48 false Try.f48 (v48.args (bs, l, ())) (v48.conts (bs, l, ())) k = vc48 bs l k := by kernel_rfl
theorem tx48 : (Try.f48.body.map Code.textsOk).getD true = true := by kernel_rfl

def vc50 (l : List Int) (k : AVal → List Cont → Prop) : Prop :=
  (k (Go.Abs.AVal.imm (Go.Abs.Ty.int Go.IntKind.i64) l Bool.false) [])
theorem eq50 (l : List Int) (k : AVal → List Cont → Prop) : awpF (envOf []) Try.prog kt 50 false Try.f50 (v50.args (l, ())) (v50.conts (l, ())) k = vc50 l k := by kernel_rfl
theorem tx50 : (Try.f50.body.map Code.textsOk).getD true = true := by kernel_rfl

def vc42 (st fl : Int) (bs : List (Int × Int)) (k : AVal → List Cont → Prop) : Prop :=
  (k (Go.Abs.AVal.agg ((Go.Abs.AVal.imm (Go.Abs.Ty.pair (Go.Abs.Ty.int Go.IntKind.i64) (Go.Abs.Ty.int Go.IntKind.i64)) bs Bool.false) :: ((Go.Abs.AVal.int Go.IntKind.i64 st) :: ((Go.Abs.AVal.int Go.IntKind.i64 fl) :: [])))) [])
theorem eq42 (st fl : Int) (bs : List (Int × Int)) (k : AVal → List Cont → Prop) : awpF (envOf []) Try.prog kt 42 false Try.f42 (v42.args (st, fl, bs, ())) (v42.conts (st, fl, bs, ())) k = vc42 st fl bs k := by kernel_rfl
theorem tx42 : (Try.f42.body.map Code.textsOk).getD true = true := by kernel_rfl

def vc75 (l : List Int) (k : AVal → List Cont → Prop) : Prop :=
  Go.Abs.Loop (σ := ((List Int) × (Int × ((List (Int × Int)) × Unit)))) (fun K2 x2 =>
    (Go.Abs.fitsK Go.IntKind.i64 (x2.2.1 + (1 : Int))) ∧
    br ((decide ((x2.2.1 + (1 : Int)) < (((List.length x2.1) : Nat) : Int))))
     (∃ h4 : (((0 : Int) ≤ x2.2.1) ∧ ((Int.toNat x2.2.1) < (List.length x2.1))),
     (Go.Abs.fitsK Go.IntKind.i64 (x2.2.1 + (1 : Int))) ∧
     ∃ h5 : (((0 : Int) ≤ (x2.2.1 + (1 : Int))) ∧ ((Int.toNat (x2.2.1 + (1 : Int))) < (List.length x2.1))),
     (((List.length x2.2.2.1) + (List.length (((x2.1[(Int.toNat x2.2.1)]'h4.2), (x2.1[(Int.toNat (x2.2.1 + (1 : Int)))]'h5.2)) :: ([] : List (Int × Int))))) ≤ Go.Abs.big) ∧
     (Go.Abs.fitsK Go.IntKind.i64 (x2.2.1 + (2 : Int))) ∧
     (K2 (x2.1, ((x2.2.1 + (2 : Int)), ((x2.2.2.1 ++ (((x2.1[(Int.toNat x2.2.1)]'h4.2), (x2.1[(Int.toNat (x2.2.1 + (1 : Int)))]'h5.2)) :: ([] : List (Int × Int)))), ())))))
     ((k (Go.Abs.AVal.reg 0 Bool.false) ((Go.Abs.Cont.sl (Go.Abs.Ty.pair (Go.Abs.Ty.int Go.IntKind.i64) (Go.Abs.Ty.int Go.IntKind.i64)) x2.2.2.1) :: [])))) ((l, ((0 : Int), (([] : List (Int × Int)), ()))))
theorem eq75 (l : List Int) (k : AVal → List Cont → Prop) : awpF (envOf []) Try.prog kt 75 false Try.f75 (v75.args (l, ())) (v75.conts (l, ())) k = vc75 l k := by kernel_rfl
theorem tx75 : (Try.f75.body.map Code.textsOk).getD true = true := by kernel_rfl

def vc49 (st fl : Int) (k : AVal → List Cont → Prop) : Prop :=
  (Go.Abs.Ship.v75.p (((3 : Int) :: ((10 : Int) :: ((1 : Int) :: ((20 : Int) :: ((2 : Int) :: ((10 : Int) :: ((2 : Int) :: ((30 : Int) :: ((4 : Int) :: ((5 : Int) :: ((1 : Int) :: ((10 : Int) :: ([] : List Int))))))))))))), ())) ∧
  (Go.Abs.Ship.v42.p (st, (fl, ((Go.Abs.Ship.pairsUp ((3 : Int) :: ((10 : Int) :: ((1 : Int) :: ((20 : Int) :: ((2 : Int) :: ((10 : Int) :: ((2 : Int) :: ((30 : Int) :: ((4 : Int) :: ((5 : Int) :: ((1 : Int) :: ((10 : Int) :: ([] : List Int)))))))))))))), ())))) ∧
  (k (Go.Abs.AVal.agg ((Go.Abs.AVal.imm (Go.Abs.Ty.pair (Go.Abs.Ty.int Go.IntKind.i64) (Go.Abs.Ty.int Go.IntKind.i64)) (Go.Abs.Ship.pairsUp ((3 : Int) :: ((10 : Int) :: ((1 : Int) :: ((20 : Int) :: ((2 : Int) :: ((10 : Int) :: ((2 : Int) :: ((30 : Int) :: ((4 : Int) :: ((5 : Int) :: ((1 : Int) :: ((10 : Int) :: ([] : List Int)))))))))))))) Bool.false) :: ((Go.Abs.AVal.int Go.IntKind.i64 st) :: ((Go.Abs.AVal.int Go.IntKind.i64 fl) :: [])))) [])
theorem eq49 (st fl : Int) (k : AVal → List Cont → Prop) : awpF (envOf [(75, mkC [v75]), (42, mkC [v42])]) Try.prog kt 49 false Try.f49 (v49.args (st, fl, ())) (v49.conts (st, fl, ())) k = vc49 st fl k := by kernel_rfl
theorem tx49 : (Try.f49.body.map Code.textsOk).getD true = true := by kernel_rfl

def vc78 (n lo hi : Int) (k : AVal → List Cont → Prop) : Prop :=
  br (((decide (n < lo)) == Bool.false))
   ((k (Go.Abs.AVal.bool (decide (n > hi))) []))
   ((k (Go.Abs.AVal.bool Bool.true) []))
theorem eq78 (n lo hi : Int) (k : AVal → List Cont → Prop) : awpF (envOf []) Try.prog kt 78 false Try.f78 (v78.args (n, lo, hi, ())) (v78.conts (n, lo, hi, ())) k = vc78 n lo hi k := by kernel_rfl
theorem tx78 : (Try.f78.body.map Code.textsOk).getD true = true := by kernel_rfl

def vc93a (l : List Int) (lo hi : Int) (k : AVal → List Cont → Prop) : Prop :=
  Go.Abs.Loop (σ := ((List Int) × (Int × (Int × (Int × (Int × Unit)))))) (fun K4 x4 =>
    br ((decide (x4.2.2.2.2.1 < x4.2.2.2.1)))
     (∃ h6 : (((0 : Int) ≤ x4.2.2.2.2.1) ∧ ((Int.toNat x4.2.2.2.2.1) < (List.length x4.1))),
     (Go.Abs.Ship.v78.p ((x4.1[(Int.toNat x4.2.2.2.2.1)]'h6.2), (x4.2.1, (x4.2.2.1, ())))) ∧
     br ((Go.Abs.Ship.outOf x4.2.1 x4.2.2.1 (x4.1[(Int.toNat x4.2.2.2.2.1)]'h6.2)))
      ((k (Go.Abs.AVal.int Go.IntKind.i64 x4.2.2.2.2.1) []))
      ((Go.Abs.fitsK Go.IntKind.i64 (x4.2.2.2.2.1 + (1 : Int))) ∧
      (K4 (x4.1, (x4.2.1, (x4.2.2.1, (x4.2.2.2.1, ((x4.2.2.2.2.1 + (1 : Int)), ()))))))))
     ((k (Go.Abs.AVal.int Go.IntKind.i64 (-(1 : Int) : Int)) []))) ((l, (lo, (hi, ((((List.length l) : Nat) : Int), ((0 : Int), ()))))))
theorem eq93a (l : List Int) (lo hi : Int) (k : AVal → List Cont → Prop) : awpF (envOf [(78, mkC [v78])]) Try.prog kt 93 false Try.f93 (v93a.args (l, lo, hi, ())) (v93a.conts (l, lo, hi, ())) k = vc93a l lo hi k := by kernel_rfl
theorem tx93 : (Try.f93.body.map Code.textsOk).getD true = true := by kernel_rfl

def vc77 (l : List Int) (lo hi : Int) (k : AVal → List Cont → Prop) : Prop :=
  (Go.Abs.Ship.v93a.p (l, (lo, (hi, ())))) ∧
  (k (Go.Abs.AVal.bool (decide ((Go.Abs.Ship.indexOut lo hi l) ≥ (0 : Int)))) [])
theorem eq77 (l : List Int) (lo hi : Int) (k : AVal → List Cont → Prop) : awpF (envOf [(93, mkC [v93a])]) Try.prog kt 77 false Try.f77 (v77.args (l, lo, hi, ())) (v77.conts (l, lo, hi, ())) k = vc77 l lo hi k := by kernel_rfl
theorem tx77 : (Try.f77.body.map Code.textsOk).getD true = true := by kernel_rfl

def vc59 (lo hi : Int) (l : List Int) (k : AVal → List Cont → Prop) : Prop :=
  (Go.Abs.Ship.v77.p (l, (lo, (hi, ())))) ∧
  (k (Go.Abs.AVal.bool (Bool.not (Go.Abs.Ship.anyOut lo hi l))) [])
theorem eq59 (lo hi : Int) (l : List Int) (k : AVal → List Cont → Prop) : awpF (envOf [(77, mkC [v77])]) Try.prog kt 59 false Try.f59 (v59.args (lo, hi, l, ())) (v59.conts (lo, hi, l, ())) k = vc59 lo hi l k := by kernel_rfl
theorem tx59 : (Try.f59.body.map Code.textsOk).getD true = true := by kernel_rfl

def vc58 (p w : Int) (k : AVal → List Cont → Prop) : Prop :=
  (Go.Abs.Ship.v59.p ((1 : Int), ((20 : Int), ((p :: ([] : List Int)), ())))) ∧
  br (((Bool.not (Bool.not (Go.Abs.Ship.anyOut (1 : Int) (20 : Int) (p :: ([] : List Int))))) == Bool.false))
   (br (((decide (w < (1 : Int))) == Bool.false))
    ((k (Go.Abs.AVal.bool (decide (w > (100 : Int)))) []))
    ((k (Go.Abs.AVal.bool Bool.true) [])))
   ((k (Go.Abs.AVal.bool Bool.true) []))
theorem eq58 (p w : Int) (k : AVal → List Cont → Prop) : awpF (envOf [(59, mkC [v59])]) Try.prog kt 58 false Try.f58 (v58.args (p, w, ())) (v58.conts (p, w, ())) k = vc58 p w k := by kernel_rfl
theorem tx58 : (Try.f58.body.map Code.textsOk).getD true = true := by kernel_rfl

def vc79 (bs : List (Int × Int)) (k : AVal → List Cont → Prop) : Prop :=
  Go.Abs.Loop (σ := ((List (Int × Int)) × (Int × (Int × Unit)))) (fun K2 x2 =>
    br ((decide (x2.2.2.1 < x2.2.1)))
     (∃ h4 : (((0 : Int) ≤ x2.2.2.1) ∧ ((Int.toNat x2.2.2.1) < (List.length x2.1))),
     (Go.Abs.Ship.v58.p ((x2.1[(Int.toNat x2.2.2.1)]'h4.2).1, ((x2.1[(Int.toNat x2.2.2.1)]'h4.2).2, ()))) ∧
     br ((Go.Abs.Ship.badBox ((x2.1[(Int.toNat x2.2.2.1)]'h4.2).1, (x2.1[(Int.toNat x2.2.2.1)]'h4.2).2)))
      ((k (Go.Abs.AVal.int Go.IntKind.i64 x2.2.2.1) []))
      ((Go.Abs.fitsK Go.IntKind.i64 (x2.2.2.1 + (1 : Int))) ∧
      (K2 (x2.1, (x2.2.1, ((x2.2.2.1 + (1 : Int)), ()))))))
     ((k (Go.Abs.AVal.int Go.IntKind.i64 (-(1 : Int) : Int)) []))) ((bs, ((((List.length bs) : Nat) : Int), ((0 : Int), ()))))
theorem eq79 (bs : List (Int × Int)) (k : AVal → List Cont → Prop) : awpF (envOf [(58, mkC [v58])]) Try.prog kt 79 false Try.f79 (v79.args (bs, ())) (v79.conts (bs, ())) k = vc79 bs k := by kernel_rfl
theorem tx79 : (Try.f79.body.map Code.textsOk).getD true = true := by kernel_rfl

def vc60 (bs : List (Int × Int)) (k : AVal → List Cont → Prop) : Prop :=
  (Go.Abs.Ship.v79.p (bs, ())) ∧
  (k (Go.Abs.AVal.bool (decide ((Go.Abs.Ship.badAt bs) ≥ (0 : Int)))) [])
theorem eq60 (bs : List (Int × Int)) (k : AVal → List Cont → Prop) : awpF (envOf [(79, mkC [v79])]) Try.prog kt 60 false Try.f60 (v60.args (bs, ())) (v60.conts (bs, ())) k = vc60 bs k := by kernel_rfl
theorem tx60 : (Try.f60.body.map Code.textsOk).getD true = true := by kernel_rfl

def vc21 (bs : List (Int × Int)) (st fl : Int) (k : AVal → List Cont → Prop) : Prop :=
  br (((decide ((((List.length bs) : Nat) : Int) > (9 : Int))) == Bool.false))
   ((Go.Abs.Ship.v59.p ((1 : Int), ((5 : Int), ((st :: ([] : List Int)), ())))) ∧
   br ((Bool.not (Bool.not (Go.Abs.Ship.anyOut (1 : Int) (5 : Int) (st :: ([] : List Int))))))
    ((k (Go.Abs.AVal.int Go.IntKind.i64 (6 : Int)) []))
    (br (((decide (fl < (1 : Int))) == Bool.false))
     (br (((decide (fl > (1000 : Int))) == Bool.false))
      ((Go.Abs.Ship.v60.p (bs, ())) ∧
      br ((Go.Abs.Ship.anyBad bs))
       ((k (Go.Abs.AVal.int Go.IntKind.i64 (3 : Int)) []))
       ((k (Go.Abs.AVal.int Go.IntKind.i64 (0 : Int)) [])))
      ((k (Go.Abs.AVal.int Go.IntKind.i64 (3 : Int)) [])))
     ((k (Go.Abs.AVal.int Go.IntKind.i64 (3 : Int)) []))))
   ((k (Go.Abs.AVal.int Go.IntKind.i64 (6 : Int)) []))
theorem eq21 (bs : List (Int × Int)) (st fl : Int) (k : AVal → List Cont → Prop) : awpF (envOf [(59, mkC [v59]), (60, mkC [v60])]) Try.prog kt 21 false Try.f21 (v21.args (bs, st, fl, ())) (v21.conts (bs, st, fl, ())) k = vc21 bs st fl k := by kernel_rfl
theorem tx21 : (Try.f21.body.map Code.textsOk).getD true = true := by kernel_rfl

def vc22 (bs : List (Int × Int)) (st fl : Int) (k : AVal → List Cont → Prop) : Prop :=
  br (((decide ((((List.length bs) : Nat) : Int) > (9 : Int))) == Bool.false))
   (br (((decide (st < (1 : Int))) == Bool.false))
    (br ((decide (st > (5 : Int))))
     ((k (Go.Abs.AVal.int Go.IntKind.i64 (6 : Int)) []))
     (br (((decide (fl < (1 : Int))) == Bool.false))
      (br ((decide (fl > (1000 : Int))))
       ((k (Go.Abs.AVal.int Go.IntKind.i64 (3 : Int)) []))
       (Go.Abs.Loop (σ := (Int × ((List (Int × Int)) × (Int × (Int × Unit))))) (fun K4 x4 =>
         br ((decide (x4.1 < (((List.length x4.2.1) : Nat) : Int))))
          (∃ h6 : (((0 : Int) ≤ x4.1) ∧ ((Int.toNat x4.1) < (List.length x4.2.1))),
          br (((decide ((x4.2.1[(Int.toNat x4.1)]'h6.2).1 < (1 : Int))) == Bool.false))
           (br (((decide ((x4.2.1[(Int.toNat x4.1)]'h6.2).1 > (20 : Int))) == Bool.false))
            (br (((decide ((x4.2.1[(Int.toNat x4.1)]'h6.2).2 < (1 : Int))) == Bool.false))
             (br ((decide ((x4.2.1[(Int.toNat x4.1)]'h6.2).2 > (100 : Int))))
              ((k (Go.Abs.AVal.int Go.IntKind.i64 (3 : Int)) []))
              ((Go.Abs.fitsK Go.IntKind.i64 (x4.1 + (1 : Int))) ∧
              (K4 ((x4.1 + (1 : Int)), (x4.2.1, (x4.2.2.1, (x4.2.2.2.1, ())))))))
             ((k (Go.Abs.AVal.int Go.IntKind.i64 (3 : Int)) [])))
            ((k (Go.Abs.AVal.int Go.IntKind.i64 (3 : Int)) [])))
           ((k (Go.Abs.AVal.int Go.IntKind.i64 (3 : Int)) [])))
          ((k (Go.Abs.AVal.int Go.IntKind.i64 (0 : Int)) []))) (((0 : Int), (bs, (st, (fl, ())))))))
      ((k (Go.Abs.AVal.int Go.IntKind.i64 (3 : Int)) []))))
    ((k (Go.Abs.AVal.int Go.IntKind.i64 (6 : Int)) [])))
   ((k (Go.Abs.AVal.int Go.IntKind.i64 (6 : Int)) []))
theorem eq22 (bs : List (Int × Int)) (st fl : Int) (k : AVal → List Cont → Prop) : awpF (envOf []) Try.prog kt 22 false Try.f22 (v22.args (bs, st, fl, ())) (v22.conts (bs, st, fl, ())) k = vc22 bs st fl k := by kernel_rfl
theorem tx22 : (Try.f22.body.map Code.textsOk).getD true = true := by kernel_rfl

def vc40 (bs : List (Int × Int)) (st fl : Int) (k : AVal → List Cont → Prop) : Prop :=
  (Go.Abs.Ship.v16.p (bs, (st, (fl, ())))) ∧
  br (((Bool.not (Go.Abs.Ship.great bs)) == Bool.true))
   ((Go.Abs.Ship.v22.p (bs, (st, (fl, ())))) ∧
   (k (Go.Abs.AVal.bool ((Go.Abs.Ship.checkLoad bs st fl) == (0 : Int))) []))
   ((k (Go.Abs.AVal.bool Bool.false) []))
theorem eq40 (bs : List (Int × Int)) (st fl : Int) (k : AVal → List Cont → Prop) : awpF (envOf [(16, mkC [v16]), (22, mkC [v22])]) Try.prog kt 40 false Try.f40 (v40.args (bs, st, fl, ())) (v40.conts (bs, st, fl, ())) k = vc40 bs st fl k := by kernel_rfl
theorem tx40 : (Try.f40.body.map Code.textsOk).getD true = true := by kernel_rfl

def vc61 (bs : List (Int × Int)) (st fl : Int) (k : AVal → List Cont → Prop) : Prop :=
  (Go.Abs.Ship.v21.p (bs, (st, (fl, ())))) ∧
  br (((Go.Abs.Ship.checkLoad bs st fl) != (0 : Int)))
   ((k (Go.Abs.AVal.tup ((Go.Abs.AVal.sem Go.Abs.nilP) :: ((Go.Abs.AVal.int Go.IntKind.i64 (Go.Abs.Ship.checkLoad bs st fl)) :: []))) []))
   ((k (Go.Abs.AVal.tup ((Go.Abs.AVal.iptr ((Go.Abs.AVal.imm (Go.Abs.Ty.pair (Go.Abs.Ty.int Go.IntKind.i64) (Go.Abs.Ty.int Go.IntKind.i64)) bs Bool.false) :: ((Go.Abs.AVal.int Go.IntKind.i64 st) :: ((Go.Abs.AVal.int Go.IntKind.i64 fl) :: [])))) :: ((Go.Abs.AVal.int Go.IntKind.i64 (0 : Int)) :: []))) []))
theorem eq61 (bs : List (Int × Int)) (st fl : Int) (k : AVal → List Cont → Prop) : awpF (envOf [(21, mkC [v21])]) Try.prog kt 61 false Try.f61 (v61.args (bs, st, fl, ())) (v61.conts (bs, st, fl, ())) k = vc61 bs st fl k := by kernel_rfl
theorem tx61 : (Try.f61.body.map Code.textsOk).getD true = true := by kernel_rfl

def vc83 (bs : List (Int × Int)) (st fl : Int) (box on : Int) (k : AVal → List Cont → Prop) : Prop :=
  ∃ h6 : (((0 : Int) ≤ box) ∧ ((Int.toNat box) < (List.length bs))),
  ∃ h7 : (((0 : Int) ≤ on) ∧ ((Int.toNat on) < (List.length bs))),
  (k (Go.Abs.AVal.bool (decide ((bs[(Int.toNat box)]'h6.2).1 ≤ (bs[(Int.toNat on)]'h7.2).1))) [])
theorem eq83 (bs : List (Int × Int)) (st fl : Int) (box on : Int) (k : AVal → List Cont → Prop) : awpF (envOf []) Try.prog kt 83 false Try.f83 (v83.args (bs, st, fl, box, on, ())) (v83.conts (bs, st, fl, box, on, ())) k = vc83 bs st fl box on k := by kernel_rfl
theorem tx83 : (Try.f83.body.map Code.textsOk).getD true = true := by kernel_rfl

def vc63 (bs : List (Int × Int)) (st fl : Int) (k : AVal → List Cont → Prop) : Prop :=
  Go.Abs.Loop (σ := (Int × (Int × ((List Int) × Unit)))) (fun K4 x4 =>
    br ((decide (x4.2.1 < x4.1)))
     ((((List.length x4.2.2.1) + (List.length (x4.2.1 :: ([] : List Int)))) ≤ Go.Abs.big) ∧
     (Go.Abs.fitsK Go.IntKind.i64 (x4.2.1 + (1 : Int))) ∧
     (K4 (x4.1, ((x4.2.1 + (1 : Int)), ((x4.2.2.1 ++ (x4.2.1 :: ([] : List Int))), ())))))
     ((k (Go.Abs.AVal.reg 0 Bool.false) ((Go.Abs.Cont.sl (Go.Abs.Ty.int Go.IntKind.i64) x4.2.2.1) :: [])))) (((((List.length bs) : Nat) : Int), ((0 : Int), (([] : List Int), ()))))
theorem eq63 (bs : List (Int × Int)) (st fl : Int) (k : AVal → List Cont → Prop) : awpF (envOf []) Try.prog kt 63 false Try.f63 (v63.args (bs, st, fl, ())) (v63.conts (bs, st, fl, ())) k = vc63 bs st fl k := by kernel_rfl
theorem tx63 : (Try.f63.body.map Code.textsOk).getD true = true := by kernel_rfl

def vc76 (bs : List (Int × Int)) (st fl : Int) (s : List Int) (k : AVal → List Cont → Prop) : Prop :=
  Go.Abs.Loop (σ := ((List (Int × Int)) × (Int × (Int × ((List Int) × (Int × (Int × ((List (Nat × (Int × Int))) × (Nat × Unit))))))))) (fun K5 x5 =>
    br ((decide (x5.2.2.2.2.2.1 < x5.2.2.2.2.1)))
     (∃ h7 : (((0 : Int) ≤ x5.2.2.2.2.2.1) ∧ ((Int.toNat x5.2.2.2.2.2.1) < (List.length x5.2.2.2.1))),
     br (((Go.Abs.mhas (Go.Abs.Ty.int Go.IntKind.i64) x5.2.2.2.2.2.2.1 (x5.2.2.2.1[(Int.toNat x5.2.2.2.2.2.1)]'h7.2)) == Bool.true))
      ((Go.Abs.Ship.v83.p (x5.1, (x5.2.1, (x5.2.2.1, (x5.2.2.2.2.2.1, ((Go.Abs.mval (Go.Abs.Ty.int Go.IntKind.i64) x5.2.2.2.2.2.2.1 (x5.2.2.2.1[(Int.toNat x5.2.2.2.2.2.1)]'h7.2)), ())))))) ∧
      br ((Bool.not (Go.Abs.Ship.liesOn x5.1 x5.2.2.2.2.2.1 (Go.Abs.mval (Go.Abs.Ty.int Go.IntKind.i64) x5.2.2.2.2.2.2.1 (x5.2.2.2.1[(Int.toNat x5.2.2.2.2.2.1)]'h7.2)))))
       ((k (Go.Abs.AVal.bool Bool.false) []))
       ((Go.Abs.fitsK Go.IntKind.i64 (x5.2.2.2.2.2.1 + (1 : Int))) ∧
       (K5 (x5.1, (x5.2.1, (x5.2.2.1, (x5.2.2.2.1, (x5.2.2.2.2.1, ((x5.2.2.2.2.2.1 + (1 : Int)), ((Go.Abs.mput (Go.Abs.Ty.int Go.IntKind.i64) x5.2.2.2.2.2.2.1 x5.2.2.2.2.2.2.2.1 (x5.2.2.2.1[(Int.toNat x5.2.2.2.2.2.1)]'h7.2) x5.2.2.2.2.2.1), ((Go.Abs.mclk (Go.Abs.Ty.int Go.IntKind.i64) x5.2.2.2.2.2.2.1 x5.2.2.2.2.2.2.2.1 (x5.2.2.2.1[(Int.toNat x5.2.2.2.2.2.1)]'h7.2)), ())))))))))))
      ((Go.Abs.fitsK Go.IntKind.i64 (x5.2.2.2.2.2.1 + (1 : Int))) ∧
      (K5 (x5.1, (x5.2.1, (x5.2.2.1, (x5.2.2.2.1, (x5.2.2.2.2.1, ((x5.2.2.2.2.2.1 + (1 : Int)), ((Go.Abs.mput (Go.Abs.Ty.int Go.IntKind.i64) x5.2.2.2.2.2.2.1 x5.2.2.2.2.2.2.2.1 (x5.2.2.2.1[(Int.toNat x5.2.2.2.2.2.1)]'h7.2) x5.2.2.2.2.2.1), ((Go.Abs.mclk (Go.Abs.Ty.int Go.IntKind.i64) x5.2.2.2.2.2.2.1 x5.2.2.2.2.2.2.2.1 (x5.2.2.2.1[(Int.toNat x5.2.2.2.2.2.1)]'h7.2)), ())))))))))))
     ((k (Go.Abs.AVal.bool Bool.true) []))) ((bs, (st, (fl, (s, ((((List.length s) : Nat) : Int), ((0 : Int), (([] : List (Nat × (Int × Int))), ((0 : Nat), ())))))))))
theorem eq76 (bs : List (Int × Int)) (st fl : Int) (s : List Int) (k : AVal → List Cont → Prop) : awpF (envOf [(83, mkC [v83])]) Try.prog kt 76 false Try.f76 (v76.args (bs, st, fl, s, ())) (v76.conts (bs, st, fl, s, ())) k = vc76 bs st fl s k := by kernel_rfl
theorem tx76 : (Try.f76.body.map Code.textsOk).getD true = true := by kernel_rfl

def vc52 (bs : List (Int × Int)) (st fl : Int) (s : List Int) (k : AVal → List Cont → Prop) : Prop :=
  ((List.length (List.replicate (5 : Nat) (Int.ofNat 0))) = (5 : Nat)) ∧
  Go.Abs.Loop (σ := ((List (Int × Int)) × (Int × (Int × ((List Int) × (Int × (Int × ((List Int) × ((List Int) × Unit))))))))) (fun K5 x5 =>
    br ((decide (x5.2.2.2.2.2.1 < x5.2.2.2.2.1)))
     (∃ h7 : (((0 : Int) ≤ x5.2.2.2.2.2.1) ∧ ((Int.toNat x5.2.2.2.2.2.1) < (List.length x5.2.2.2.1))),
     (((0 : Int) ≤ (x5.2.2.2.1[(Int.toNat x5.2.2.2.2.2.1)]'h7.2)) ∧ ((Int.toNat (x5.2.2.2.1[(Int.toNat x5.2.2.2.2.2.1)]'h7.2)) < (5 : Nat))) ∧
     ∃ h8 : ((Int.toNat (x5.2.2.2.1[(Int.toNat x5.2.2.2.2.2.1)]'h7.2)) < (List.length x5.2.2.2.2.2.2.2.1)),
     ∃ h9 : (((0 : Int) ≤ x5.2.2.2.2.2.1) ∧ ((Int.toNat x5.2.2.2.2.2.1) < (List.length x5.1))),
     (Go.Abs.fitsK Go.IntKind.i64 ((x5.2.2.2.2.2.2.2.1[(Int.toNat (x5.2.2.2.1[(Int.toNat x5.2.2.2.2.2.1)]'h7.2))]'h8) + (x5.1[(Int.toNat x5.2.2.2.2.2.1)]'h9.2).2)) ∧
     (((0 : Int) ≤ (x5.2.2.2.1[(Int.toNat x5.2.2.2.2.2.1)]'h7.2)) ∧ ((Int.toNat (x5.2.2.2.1[(Int.toNat x5.2.2.2.2.2.1)]'h7.2)) < (5 : Nat))) ∧
     ∃ h10 : ((Int.toNat (x5.2.2.2.1[(Int.toNat x5.2.2.2.2.2.1)]'h7.2)) < (List.length x5.2.2.2.2.2.2.2.1)),
     (Go.Abs.fitsK Go.IntKind.i64 (x5.2.2.2.2.2.1 + (1 : Int))) ∧
     (K5 (x5.1, (x5.2.1, (x5.2.2.1, (x5.2.2.2.1, (x5.2.2.2.2.1, ((x5.2.2.2.2.2.1 + (1 : Int)), (x5.2.2.2.2.2.2.1, ((List.set x5.2.2.2.2.2.2.2.1 (Int.toNat (x5.2.2.2.1[(Int.toNat x5.2.2.2.2.2.1)]'h7.2)) ((x5.2.2.2.2.2.2.2.1[(Int.toNat (x5.2.2.2.1[(Int.toNat x5.2.2.2.2.2.1)]'h7.2))]'h8) + (x5.1[(Int.toNat x5.2.2.2.2.2.1)]'h9.2).2)), ()))))))))))
     ((((List.length x5.2.2.2.2.2.2.2.1) * (Go.Abs.Ty.size (Go.Abs.Ty.int Go.IntKind.i64))) = (Go.Abs.sizeT Go.Proofs.Try.prog (64 : Nat))) ∧
     ((List.length x5.2.2.2.2.2.2.2.1) = (List.length x5.2.2.2.2.2.2.1)) ∧
     (((List.length x5.2.2.2.2.2.2.2.1) * (Go.Abs.Ty.size (Go.Abs.Ty.int Go.IntKind.i64))) = (Go.Abs.sizeT Go.Proofs.Try.prog (64 : Nat))) ∧
     ((0 : Nat) < (List.length x5.2.2.2.2.2.2.1)) ∧
     (((List.length x5.2.2.2.2.2.2.2.1) * (Go.Abs.Ty.size (Go.Abs.Ty.int Go.IntKind.i64))) = (Go.Abs.sizeT Go.Proofs.Try.prog (64 : Nat))) ∧
     (k (Go.Abs.AVal.arrv (Go.Abs.Ty.int Go.IntKind.i64) x5.2.2.2.2.2.2.2.1) []))) ((bs, (st, (fl, (s, ((((List.length s) : Nat) : Int), ((0 : Int), ((List.replicate (5 : Nat) (Int.ofNat 0)), ((List.replicate (List.length (List.replicate (5 : Nat) (Int.ofNat 0))) (Int.ofNat 0)), ())))))))))
theorem eq52 (bs : List (Int × Int)) (st fl : Int) (s : List Int) (k : AVal → List Cont → Prop) : awpF (envOf []) Try.prog kt 52 false Try.f52 (v52.args (bs, st, fl, s, ())) (v52.conts (bs, st, fl, s, ())) k = vc52 bs st fl s k := by kernel_rfl
theorem tx52 : (Try.f52.body.map Code.textsOk).getD true = true := by kernel_rfl

def vc51 (bs : List (Int × Int)) (st fl : Int) (s : List Int) (k : AVal → List Cont → Prop) : Prop :=
  (Go.Abs.Ship.v61.p (bs, (st, (fl, ())))) ∧
  br ((Go.Abs.Ship.clIs bs st fl (6 : Int)))
   ((k (Go.Abs.AVal.tup ((Go.Abs.AVal.sem Go.Abs.nilP) :: ((Go.Abs.AVal.int Go.IntKind.i64 (6 : Int)) :: []))) []))
   (br ((Go.Abs.Ship.clIs bs st fl (3 : Int)))
    ((k (Go.Abs.AVal.tup ((Go.Abs.AVal.sem Go.Abs.nilP) :: ((Go.Abs.AVal.int Go.IntKind.i64 (3 : Int)) :: []))) []))
    (br (((((List.length s) : Nat) : Int) != (((List.length bs) : Nat) : Int)))
     ((k (Go.Abs.AVal.tup ((Go.Abs.AVal.sem Go.Abs.nilP) :: ((Go.Abs.AVal.int Go.IntKind.i64 (15 : Int)) :: []))) []))
     ((Go.Abs.fitsK Go.IntKind.i64 (st - (1 : Int))) ∧
     (Go.Abs.Ship.v59.p ((0 : Int), ((st - (1 : Int)), (s, ())))) ∧
     br ((Bool.not (Bool.not (Go.Abs.Ship.anyOut (0 : Int) (st - (1 : Int)) s))))
      ((k (Go.Abs.AVal.tup ((Go.Abs.AVal.sem Go.Abs.nilP) :: ((Go.Abs.AVal.int Go.IntKind.i64 (2 : Int)) :: []))) []))
      ((Go.Abs.Ship.v76.p (bs, (st, (fl, (s, ()))))) ∧
      br ((Bool.not (Go.Abs.Ship.smoothB bs s)))
       ((k (Go.Abs.AVal.tup ((Go.Abs.AVal.sem Go.Abs.nilP) :: ((Go.Abs.AVal.int Go.IntKind.i64 (23 : Int)) :: []))) []))
       ((k (Go.Abs.AVal.tup ((Go.Abs.AVal.iptr ((Go.Abs.AVal.imm (Go.Abs.Ty.pair (Go.Abs.Ty.int Go.IntKind.i64) (Go.Abs.Ty.int Go.IntKind.i64)) bs Bool.false) :: ((Go.Abs.AVal.int Go.IntKind.i64 st) :: ((Go.Abs.AVal.int Go.IntKind.i64 fl) :: [])))) :: ((Go.Abs.AVal.int Go.IntKind.i64 (0 : Int)) :: []))) []))))))
theorem eq51 (bs : List (Int × Int)) (st fl : Int) (s : List Int) (k : AVal → List Cont → Prop) : awpF (envOf [(61, mkC [v61]), (59, mkC [v59]), (76, mkC [v76])]) Try.prog kt 51 false Try.f51 (v51.args (bs, st, fl, s, ())) (v51.conts (bs, st, fl, s, ())) k = vc51 bs st fl s k := by kernel_rfl
theorem tx51 : (Try.f51.body.map Code.textsOk).getD true = true := by kernel_rfl

def vc54 (a b : Int) (k : AVal → List Cont → Prop) : Prop :=
  (k (Go.Abs.AVal.bool (decide (a > b))) [])
theorem eq54 (a b : Int) (k : AVal → List Cont → Prop) : awpF (envOf []) Try.prog kt 54 false Try.f54 (v54.args (a, b, ())) (v54.conts (a, b, ())) k = vc54 a b k := by kernel_rfl
theorem tx54 : (Try.f54.body.map Code.textsOk).getD true = true := by kernel_rfl

def vc53 (l : List Int) (k : AVal → List Cont → Prop) : Prop :=
  ∃ h2 : (((0 : Int) ≤ (0 : Int)) ∧ ((Int.toNat (0 : Int)) < (List.length l))),
  (((0 : Int) ≤ (1 : Int)) ∧ ((1 : Int) ≤ (((List.length l) : Nat) : Int))) ∧
  Go.Abs.Loop (σ := (Int × ((List Int) × (Int × (Int × Unit))))) (fun K3 x3 =>
    br ((decide (x3.2.2.2.1 < x3.2.2.1)))
     (∃ h5 : (((0 : Int) ≤ x3.2.2.2.1) ∧ ((Int.toNat x3.2.2.2.1) < (List.length x3.2.1))),
     (Go.Abs.Ship.v54.p ((x3.2.1[(Int.toNat x3.2.2.2.1)]'h5.2), (x3.1, ()))) ∧
     br ((decide ((x3.2.1[(Int.toNat x3.2.2.2.1)]'h5.2) > x3.1)))
      ((Go.Abs.fitsK Go.IntKind.i64 (x3.2.2.2.1 + (1 : Int))) ∧
      (K3 ((x3.2.1[(Int.toNat x3.2.2.2.1)]'h5.2), (x3.2.1, (x3.2.2.1, ((x3.2.2.2.1 + (1 : Int)), ()))))))
      ((Go.Abs.fitsK Go.IntKind.i64 (x3.2.2.2.1 + (1 : Int))) ∧
      (K3 (x3.1, (x3.2.1, (x3.2.2.1, ((x3.2.2.2.1 + (1 : Int)), ())))))))
     ((k (Go.Abs.AVal.int Go.IntKind.i64 x3.1) []))) (((l[(Int.toNat (0 : Int))]'h2.2), ((List.drop (Int.toNat (1 : Int)) l), ((((List.length (List.drop (Int.toNat (1 : Int)) l)) : Nat) : Int), ((0 : Int), ())))))
theorem eq53 (l : List Int) (k : AVal → List Cont → Prop) : awpF (envOf [(54, mkC [v54])]) Try.prog kt 53 false Try.f53 (v53.args (l, ())) (v53.conts (l, ())) k = vc53 l k := by kernel_rfl
theorem tx53 : (Try.f53.body.map Code.textsOk).getD true = true := by kernel_rfl

def vc85 (l : List Int) (k : AVal → List Cont → Prop) : Prop :=
  br ((decide ((((List.length l) : Nat) : Int) < (1 : Int))))
   (False)
   (∃ h2 : (((0 : Int) ≤ (0 : Int)) ∧ ((Int.toNat (0 : Int)) < (List.length l))),
   Go.Abs.Loop (σ := ((List Int) × (Int × (Int × Unit)))) (fun K3 x3 =>
     br ((decide (x3.2.2.1 < (((List.length x3.1) : Nat) : Int))))
      (∃ h5 : (((0 : Int) ≤ x3.2.2.1) ∧ ((Int.toNat x3.2.2.1) < (List.length x3.1))),
      (Go.Abs.fitsK Go.IntKind.i64 (x3.2.2.1 + (1 : Int))) ∧
      (K3 (x3.1, ((ite ((x3.1[(Int.toNat x3.2.2.1)]'h5.2) > x3.2.1) (x3.1[(Int.toNat x3.2.2.1)]'h5.2) x3.2.1), ((x3.2.2.1 + (1 : Int)), ())))))
      ((k (Go.Abs.AVal.int Go.IntKind.i64 x3.2.1) []))) ((l, ((l[(Int.toNat (0 : Int))]'h2.2), ((1 : Int), ())))))
theorem eq85 (l : List Int) (k : AVal → List Cont → Prop) : awpF (envOf []) Try.prog kt 85 false Try.f85 (v85.args (l, ())) (v85.conts (l, ())) k = vc85 l k := by kernel_rfl
theorem tx85 : (Try.f85.body.map Code.textsOk).getD true = true := by kernel_rfl

def vc19 (bs : List (Int × Int)) (st fl : Int) (s : List Int) (k : AVal → List Cont → Prop) : Prop :=
  (Go.Abs.Ship.v51.p (bs, (st, (fl, (s, ()))))) ∧
  br ((Go.Abs.Ship.seIs bs st fl s (6 : Int)))
   ((k (Go.Abs.AVal.tup ((Go.Abs.AVal.int Go.IntKind.i64 (0 : Int)) :: ((Go.Abs.AVal.int Go.IntKind.i64 (0 : Int)) :: ((Go.Abs.AVal.int Go.IntKind.i64 (6 : Int)) :: [])))) []))
   (br ((Go.Abs.Ship.seIs bs st fl s (3 : Int)))
    ((k (Go.Abs.AVal.tup ((Go.Abs.AVal.int Go.IntKind.i64 (0 : Int)) :: ((Go.Abs.AVal.int Go.IntKind.i64 (0 : Int)) :: ((Go.Abs.AVal.int Go.IntKind.i64 (3 : Int)) :: [])))) []))
    (br ((Go.Abs.Ship.seIs bs st fl s (15 : Int)))
     ((k (Go.Abs.AVal.tup ((Go.Abs.AVal.int Go.IntKind.i64 (0 : Int)) :: ((Go.Abs.AVal.int Go.IntKind.i64 (0 : Int)) :: ((Go.Abs.AVal.int Go.IntKind.i64 (15 : Int)) :: [])))) []))
     (br ((Go.Abs.Ship.seIs bs st fl s (2 : Int)))
      ((k (Go.Abs.AVal.tup ((Go.Abs.AVal.int Go.IntKind.i64 (0 : Int)) :: ((Go.Abs.AVal.int Go.IntKind.i64 (0 : Int)) :: ((Go.Abs.AVal.int Go.IntKind.i64 (2 : Int)) :: [])))) []))
      (br ((Go.Abs.Ship.seIs bs st fl s (23 : Int)))
       ((k (Go.Abs.AVal.tup ((Go.Abs.AVal.int Go.IntKind.i64 (0 : Int)) :: ((Go.Abs.AVal.int Go.IntKind.i64 (0 : Int)) :: ((Go.Abs.AVal.int Go.IntKind.i64 (23 : Int)) :: [])))) []))
       ((Go.Abs.Ship.v52.p (bs, (st, (fl, (s, ()))))) ∧
       ((List.length (Go.Abs.Ship.weights bs s (5 : Nat))) = (List.length (List.replicate (5 : Nat) (Int.ofNat 0)))) ∧
       (((List.length (Go.Abs.Ship.weights bs s (5 : Nat))) * (Go.Abs.Ty.size (Go.Abs.Ty.int Go.IntKind.i64))) = (Go.Abs.sizeT Go.Proofs.Try.prog (64 : Nat))) ∧
       ((0 : Nat) < (List.length (List.replicate (5 : Nat) (Int.ofNat 0)))) ∧
       (((List.length (Go.Abs.Ship.weights bs s (5 : Nat))) * (Go.Abs.Ty.size (Go.Abs.Ty.int Go.IntKind.i64))) = (Go.Abs.sizeT Go.Proofs.Try.prog (64 : Nat))) ∧
       ((List.length (Go.Abs.Ship.weights bs s (5 : Nat))) = (Go.Abs.arrLenT Go.Proofs.Try.prog (64 : Nat))) ∧
       ((List.length (List.replicate (5 : Nat) (Int.ofNat 0))) = (Go.Abs.arrLenT Go.Proofs.Try.prog (64 : Nat))) ∧
       br (((Go.Abs.Ship.weights bs s (5 : Nat)) == (List.replicate (5 : Nat) (Int.ofNat 0))))
        ((k (Go.Abs.AVal.tup ((Go.Abs.AVal.int Go.IntKind.i64 (0 : Int)) :: ((Go.Abs.AVal.int Go.IntKind.i64 (0 : Int)) :: ((Go.Abs.AVal.int Go.IntKind.i64 (0 : Int)) :: [])))) []))
        (((List.length (Go.Abs.Ship.weights bs s (5 : Nat))) = (5 : Nat)) ∧
        (Go.Abs.Ship.v53.p ((Go.Abs.Ship.weights bs s (5 : Nat)), ())) ∧
        br ((decide ((Go.Abs.Ship.maxL (Go.Abs.Ship.weights bs s (5 : Nat))) > fl)))
         ((k (Go.Abs.AVal.tup ((Go.Abs.AVal.int Go.IntKind.i64 (0 : Int)) :: ((Go.Abs.AVal.int Go.IntKind.i64 (0 : Int)) :: ((Go.Abs.AVal.int Go.IntKind.i64 (4 : Int)) :: [])))) []))
         ((((List.length (Go.Abs.Ship.weights bs s (5 : Nat))) * (Go.Abs.Ty.size (Go.Abs.Ty.int Go.IntKind.i64))) = (Go.Abs.sizeT Go.Proofs.Try.prog (64 : Nat))) ∧
         Go.Abs.Loop (σ := (Int × (Int × ((List Int) × (Int × Unit))))) (fun K5 x5 =>
           br ((decide (x5.2.2.2.1 < (5 : Int))))
            (∃ h7 : (((0 : Int) ≤ x5.2.2.2.1) ∧ ((Int.toNat x5.2.2.2.1) < (List.length x5.2.2.1))),
            ((Int.toNat x5.2.2.2.1) < (5 : Nat)) ∧
            ((List.length x5.2.2.1) = (5 : Nat)) ∧
            br ((decide ((x5.2.2.1[(Int.toNat x5.2.2.2.1)]'h7.2) > (0 : Int))))
             ((Go.Abs.fitsK Go.IntKind.i64 (x5.2.1 + (1 : Int))) ∧
             (Go.Abs.fitsK Go.IntKind.i64 (x5.2.2.2.1 + (1 : Int))) ∧
             (K5 (x5.1, ((x5.2.1 + (1 : Int)), (x5.2.2.1, ((x5.2.2.2.1 + (1 : Int)), ()))))))
             ((Go.Abs.fitsK Go.IntKind.i64 (x5.2.2.2.1 + (1 : Int))) ∧
             (K5 (x5.1, (x5.2.1, (x5.2.2.1, ((x5.2.2.2.1 + (1 : Int)), ())))))))
            ((k (Go.Abs.AVal.tup ((Go.Abs.AVal.int Go.IntKind.i64 x5.2.1) :: ((Go.Abs.AVal.int Go.IntKind.i64 x5.1) :: ((Go.Abs.AVal.int Go.IntKind.i64 (0 : Int)) :: [])))) []))) (((Go.Abs.Ship.maxL (Go.Abs.Ship.weights bs s (5 : Nat))), ((0 : Int), ((Go.Abs.Ship.weights bs s (5 : Nat)), ((0 : Int), ()))))))))))))
theorem eq19 (bs : List (Int × Int)) (st fl : Int) (s : List Int) (k : AVal → List Cont → Prop) : awpF (envOf [(51, mkC [v51]), (52, mkC [v52]), (53, mkC [v53])]) Try.prog kt 19 false Try.f19 (v19.args (bs, st, fl, s, ())) (v19.conts (bs, st, fl, s, ())) k = vc19 bs st fl s k := by kernel_rfl
theorem tx19 : (Try.f19.body.map Code.textsOk).getD true = true := by kernel_rfl

def vc57 (bs : List (Int × Int)) (s : List Int) (n : Int) (k : AVal → List Cont → Prop) : Prop :=
  (((0 : Int) ≤ n) ∧ ((n = n) ∧ (n ≤ ((Go.Abs.big : Nat) : Int)))) ∧
  Go.Abs.Loop (σ := ((List (Int × Int)) × ((List Int) × (Int × ((List Int) × Unit))))) (fun K4 x4 =>
    br ((decide (x4.2.2.1 < (((List.length x4.2.1) : Nat) : Int))))
     (∃ h6 : (((0 : Int) ≤ x4.2.2.1) ∧ ((Int.toNat x4.2.2.1) < (List.length x4.2.1))),
     (((0 : Int) ≤ (x4.2.1[(Int.toNat x4.2.2.1)]'h6.2)) ∧ ((Int.toNat (x4.2.1[(Int.toNat x4.2.2.1)]'h6.2)) < (List.length x4.2.2.2.1))) ∧
     ∃ h7 : ((Int.toNat (x4.2.1[(Int.toNat x4.2.2.1)]'h6.2)) < (List.length x4.2.2.2.1)),
     ∃ h8 : (((0 : Int) ≤ x4.2.2.1) ∧ ((Int.toNat x4.2.2.1) < (List.length x4.1))),
     (Go.Abs.fitsK Go.IntKind.i64 ((x4.2.2.2.1[(Int.toNat (x4.2.1[(Int.toNat x4.2.2.1)]'h6.2))]'h7) + (x4.1[(Int.toNat x4.2.2.1)]'h8.2).2)) ∧
     (((0 : Int) ≤ (x4.2.1[(Int.toNat x4.2.2.1)]'h6.2)) ∧ ((Int.toNat (x4.2.1[(Int.toNat x4.2.2.1)]'h6.2)) < (List.length x4.2.2.2.1))) ∧
     ∃ h9 : ((Int.toNat (x4.2.1[(Int.toNat x4.2.2.1)]'h6.2)) < (List.length x4.2.2.2.1)),
     (Go.Abs.fitsK Go.IntKind.i64 (x4.2.2.1 + (1 : Int))) ∧
     (K4 (x4.1, (x4.2.1, ((x4.2.2.1 + (1 : Int)), ((List.set x4.2.2.2.1 (Int.toNat (x4.2.1[(Int.toNat x4.2.2.1)]'h6.2)) ((x4.2.2.2.1[(Int.toNat (x4.2.1[(Int.toNat x4.2.2.1)]'h6.2))]'h7) + (x4.1[(Int.toNat x4.2.2.1)]'h8.2).2)), ()))))))
     ((k (Go.Abs.AVal.reg 0 Bool.false) ((Go.Abs.Cont.sl (Go.Abs.Ty.int Go.IntKind.i64) x4.2.2.2.1) :: [])))) ((bs, (s, ((0 : Int), ((List.replicate (Int.toNat n) (Int.ofNat 0)), ())))))
theorem eq57 (bs : List (Int × Int)) (s : List Int) (n : Int) (k : AVal → List Cont → Prop) : awpF (envOf []) Try.prog kt 57 false Try.f57 (v57.args (bs, s, n, ())) (v57.conts (bs, s, n, ())) k = vc57 bs s n k := by kernel_rfl
theorem tx57 : (Try.f57.body.map Code.textsOk).getD true = true := by kernel_rfl

def vc56 (bs : List (Int × Int)) (st fl : Int) (s : List Int) (k : AVal → List Cont → Prop) : Prop :=
  (Go.Abs.Ship.v57.p (bs, (s, (st, ())))) ∧
  Go.Abs.Loop (σ := ((List Int) × (Int × ((List (Int × Int)) × (Int × (Int × ((List Int) × Unit))))))) (fun K5 x5 =>
    br ((decide (x5.2.1 < (((List.length x5.2.2.2.2.2.1) : Nat) : Int))))
     ((((0 : Int) ≤ x5.2.1) ∧ ((Int.toNat x5.2.1) < (List.length x5.2.2.2.2.2.1))) ∧
     ∃ h7 : ((Int.toNat x5.2.1) < (List.length x5.2.2.2.2.2.1)),
     br ((decide ((x5.2.2.2.2.2.1[(Int.toNat x5.2.1)]'h7) > x5.2.2.2.2.1)))
      ((k (Go.Abs.AVal.bool Bool.false) []))
      ((Go.Abs.fitsK Go.IntKind.i64 (x5.2.1 + (1 : Int))) ∧
      (K5 (x5.1, ((x5.2.1 + (1 : Int)), (x5.2.2.1, (x5.2.2.2.1, (x5.2.2.2.2.1, (x5.2.2.2.2.2.1, ())))))))))
     ((Go.Abs.Ship.v45.p (x5.2.2.1, (x5.1, ()))) ∧
     (k (Go.Abs.AVal.bool (Go.Abs.Ship.smoothB x5.2.2.1 x5.1)) []))) ((s, ((0 : Int), (bs, (st, (fl, ((Go.Abs.Ship.wtsI bs s st), ())))))))
theorem eq56 (bs : List (Int × Int)) (st fl : Int) (s : List Int) (k : AVal → List Cont → Prop) : awpF (envOf [(57, mkC [v57]), (45, mkC [v45])]) Try.prog kt 56 false Try.f56 (v56.args (bs, st, fl, s, ())) (v56.conts (bs, st, fl, s, ())) k = vc56 bs st fl s k := by kernel_rfl
theorem tx56 : (Try.f56.body.map Code.textsOk).getD true = true := by kernel_rfl

def vc55 (bs : List (Int × Int)) (st fl : Int) (s : List Int) (k : AVal → List Cont → Prop) : Prop :=
  (Go.Abs.Ship.v22.p (bs, (st, (fl, ())))) ∧
  br (((Go.Abs.Ship.checkLoad bs st fl) != (0 : Int)))
   ((Go.Abs.Ship.v22.p (bs, (st, (fl, ())))) ∧
   (k (Go.Abs.AVal.int Go.IntKind.i64 (Go.Abs.Ship.checkLoad bs st fl)) []))
   (br (((((List.length s) : Nat) : Int) != (((List.length bs) : Nat) : Int)))
    ((k (Go.Abs.AVal.int Go.IntKind.i64 (15 : Int)) []))
    (Go.Abs.Loop (σ := ((List Int) × (Int × ((List (Int × Int)) × (Int × (Int × Unit)))))) (fun K5 x5 =>
      br ((decide (x5.2.1 < (((List.length x5.1) : Nat) : Int))))
       (∃ h7 : (((0 : Int) ≤ x5.2.1) ∧ ((Int.toNat x5.2.1) < (List.length x5.1))),
       br (((decide ((x5.1[(Int.toNat x5.2.1)]'h7.2) < (0 : Int))) == Bool.false))
        (∃ h8 : (((0 : Int) ≤ x5.2.1) ∧ ((Int.toNat x5.2.1) < (List.length x5.1))),
        br ((decide ((x5.1[(Int.toNat x5.2.1)]'h8.2) ≥ x5.2.2.2.1)))
         ((k (Go.Abs.AVal.int Go.IntKind.i64 (2 : Int)) []))
         ((Go.Abs.fitsK Go.IntKind.i64 (x5.2.1 + (1 : Int))) ∧
         (K5 (x5.1, ((x5.2.1 + (1 : Int)), (x5.2.2.1, (x5.2.2.2.1, (x5.2.2.2.2.1, ()))))))))
        ((k (Go.Abs.AVal.int Go.IntKind.i64 (2 : Int)) [])))
       ((Go.Abs.Ship.v45.p (x5.2.2.1, (x5.1, ()))) ∧
       br ((Bool.not (Go.Abs.Ship.smoothB x5.2.2.1 x5.1)))
        ((k (Go.Abs.AVal.int Go.IntKind.i64 (23 : Int)) []))
        ((k (Go.Abs.AVal.int Go.IntKind.i64 (0 : Int)) [])))) ((s, ((0 : Int), (bs, (st, (fl, ()))))))))
theorem eq55 (bs : List (Int × Int)) (st fl : Int) (s : List Int) (k : AVal → List Cont → Prop) : awpF (envOf [(22, mkC [v22]), (45, mkC [v45])]) Try.prog kt 55 false Try.f55 (v55.args (bs, st, fl, s, ())) (v55.conts (bs, st, fl, s, ())) k = vc55 bs st fl s k := by kernel_rfl
theorem tx55 : (Try.f55.body.map Code.textsOk).getD true = true := by kernel_rfl

def vc20 (bs : List (Int × Int)) (st fl : Int) (s : List Int) (k : AVal → List Cont → Prop) : Prop :=
  (Go.Abs.Ship.v55.p (bs, (st, (fl, (s, ()))))) ∧
  br (((Go.Abs.Ship.stowErr bs st fl s) != (0 : Int)))
   ((Go.Abs.Ship.v55.p (bs, (st, (fl, (s, ()))))) ∧
   (k (Go.Abs.AVal.tup ((Go.Abs.AVal.int Go.IntKind.i64 (0 : Int)) :: ((Go.Abs.AVal.int Go.IntKind.i64 (0 : Int)) :: ((Go.Abs.AVal.int Go.IntKind.i64 (Go.Abs.Ship.stowErr bs st fl s)) :: [])))) []))
   ((Go.Abs.Ship.v56.p (bs, (st, (fl, (s, ()))))) ∧
   br ((Bool.not (Go.Abs.Ship.goodB bs st fl s)))
    ((k (Go.Abs.AVal.tup ((Go.Abs.AVal.int Go.IntKind.i64 (0 : Int)) :: ((Go.Abs.AVal.int Go.IntKind.i64 (0 : Int)) :: ((Go.Abs.AVal.int Go.IntKind.i64 (4 : Int)) :: [])))) []))
    ((Go.Abs.Ship.v57.p (bs, (s, (st, ())))) ∧
    Go.Abs.Loop (σ := (Int × (Int × (Int × ((List Int) × Unit))))) (fun K5 x5 =>
      br ((decide (x5.2.2.1 < (((List.length x5.2.2.2.1) : Nat) : Int))))
       ((((0 : Int) ≤ x5.2.2.1) ∧ ((Int.toNat x5.2.2.1) < (List.length x5.2.2.2.1))) ∧
       ∃ h7 : ((Int.toNat x5.2.2.1) < (List.length x5.2.2.2.1)),
       br ((decide ((x5.2.2.2.1[(Int.toNat x5.2.2.1)]'h7) > (0 : Int))))
        ((Go.Abs.fitsK Go.IntKind.i64 (x5.1 + (1 : Int))) ∧
        (((0 : Int) ≤ x5.2.2.1) ∧ ((Int.toNat x5.2.2.1) < (List.length x5.2.2.2.1))) ∧
        ∃ h8 : ((Int.toNat x5.2.2.1) < (List.length x5.2.2.2.1)),
        (Go.Abs.fitsK Go.IntKind.i64 (x5.2.2.1 + (1 : Int))) ∧
        (K5 ((x5.1 + (1 : Int)), ((ite ((x5.2.2.2.1[(Int.toNat x5.2.2.1)]'h8) > x5.2.1) (x5.2.2.2.1[(Int.toNat x5.2.2.1)]'h8) x5.2.1), ((x5.2.2.1 + (1 : Int)), (x5.2.2.2.1, ()))))))
        ((((0 : Int) ≤ x5.2.2.1) ∧ ((Int.toNat x5.2.2.1) < (List.length x5.2.2.2.1))) ∧
        ∃ h8 : ((Int.toNat x5.2.2.1) < (List.length x5.2.2.2.1)),
        (Go.Abs.fitsK Go.IntKind.i64 (x5.2.2.1 + (1 : Int))) ∧
        (K5 (x5.1, ((ite ((x5.2.2.2.1[(Int.toNat x5.2.2.1)]'h8) > x5.2.1) (x5.2.2.2.1[(Int.toNat x5.2.2.1)]'h8) x5.2.1), ((x5.2.2.1 + (1 : Int)), (x5.2.2.2.1, ())))))))
       ((k (Go.Abs.AVal.tup ((Go.Abs.AVal.int Go.IntKind.i64 x5.1) :: ((Go.Abs.AVal.int Go.IntKind.i64 x5.2.1) :: ((Go.Abs.AVal.int Go.IntKind.i64 (0 : Int)) :: [])))) []))) (((0 : Int), ((0 : Int), ((0 : Int), ((Go.Abs.Ship.wtsI bs s st), ())))))))
theorem eq20 (bs : List (Int × Int)) (st fl : Int) (s : List Int) (k : AVal → List Cont → Prop) : awpF (envOf [(55, mkC [v55]), (56, mkC [v56]), (57, mkC [v57])]) Try.prog kt 20 false Try.f20 (v20.args (bs, st, fl, s, ())) (v20.conts (bs, st, fl, s, ())) k = vc20 bs st fl s k := by kernel_rfl
theorem tx20 : (Try.f20.body.map Code.textsOk).getD true = true := by kernel_rfl

end Go.Abs.Ship
end

section
/- Bits of numbers that are not negative. -/
namespace Go.Abs

theorem ofInt_toNat (a : Nat) (h : a < 9223372036854775808) : (BitVec.ofInt 64 (a : Int)).toNat = a := by
  rw [BitVec.toNat_ofInt]
  have : ((a : Int) % ((2 ^ 64 : Nat) : Int)) = (a : Int) := by
    apply Int.emod_eq_of_lt
    · omega
    · have : ((2 ^ 64 : Nat) : Int) = 18446744073709551616 := by decide
      rw [this]; omega
  rw [this]; simp

theorem wrap_nat (a : Nat) (h : a < 9223372036854775808) : IntKind.i64.wrap (a : Int) = a := by
  rw [IntKind.wrap_i64]; omega

theorem land_nat (a b : Nat) (ha : a < 9223372036854775808) (hb : b < 9223372036854775808) : bitsA .and .i64 a b = ((a &&& b : Nat) : Int) := by
  show IntKind.i64.wrap ((BitVec.ofInt 64 (a : Int) &&& BitVec.ofInt 64 (b : Int)).toNat : Int) = _
  rw [BitVec.toNat_and, ofInt_toNat a ha, ofInt_toNat b hb]
  exact wrap_nat _ (Nat.lt_of_le_of_lt Nat.and_le_left ha)

theorem lor_nat (a b : Nat) (ha : a < 9223372036854775808) (hb : b < 9223372036854775808) : bitsA .or .i64 a b = ((a ||| b : Nat) : Int) := by
  show IntKind.i64.wrap ((BitVec.ofInt 64 (a : Int) ||| BitVec.ofInt 64 (b : Int)).toNat : Int) = _
  rw [BitVec.toNat_or, ofInt_toNat a ha, ofInt_toNat b hb]
  exact wrap_nat _ (by
    have h1 : a < 2 ^ 63 := by simpa using ha
    have h2 : b < 2 ^ 63 := by simpa using hb
    have := Nat.or_lt_two_pow h1 h2
    simpa using this)

theorem shr_nat (a i : Nat) (ha : a < 9223372036854775808) : shrA .i64 a i = ((a >>> i : Nat) : Int) := by
  have e : shrA .i64 (a : Int) (i : Int) = (a : Int).fdiv (2 ^ (min i 64)) := by
    unfold shrA; simp [IntKind.bits]
  rw [e, Nat.shiftRight_eq_div_pow]
  have h2 : ((2 : Int) ^ (min i 64)) = ((2 ^ (min i 64) : Nat) : Int) := by simp
  rw [h2, Int.fdiv_eq_ediv_of_nonneg _ (Int.natCast_nonneg _), ← Int.natCast_ediv]
  congr 1
  rcases Nat.lt_or_ge i 64 with h | h
  · rw [Nat.min_eq_left (by omega)]
  · rw [Nat.min_eq_right h]
    have h64 : a < 2 ^ 64 := by have : (2:Nat) ^ 64 = 18446744073709551616 := by decide
                                omega
    rw [Nat.div_eq_of_lt h64, Nat.div_eq_of_lt (Nat.lt_of_lt_of_le h64 (Nat.pow_le_pow_right (by omega) h))]

theorem shl_nat (a i : Nat) (hi : i ≤ 62) (ha : a * 2 ^ i < 9223372036854775808) : shlA .i64 a i = ((a * 2 ^ i : Nat) : Int) := by
  have e : shlA .i64 (a : Int) (i : Int) = IntKind.i64.wrap ((a : Int) * 2 ^ (min i 64)) := by
    unfold shlA; simp [IntKind.bits]
  rw [e, Nat.min_eq_left (by omega)]
  have h2 : ((a : Int) * (2 : Int) ^ i) = ((a * 2 ^ i : Nat) : Int) := by simp
  rw [h2]
  exact wrap_nat _ ha

/-- Is bit i there? -/
theorem bit_test (a i : Nat) (ha : a < 9223372036854775808) : (bitsA .and .i64 (shrA .i64 a i) 1 == 1) = a.testBit i := by
  rw [shr_nat a i ha]
  have h1 : a >>> i < 9223372036854775808 := Nat.lt_of_le_of_lt (Nat.shiftRight_le a i) ha
  have := land_nat (a >>> i) 1 h1 (by omega)
  rw [show ((1 : Int)) = ((1 : Nat) : Int) from rfl, this]
  rw [Nat.testBit]
  simp only [Nat.and_one_is_mod, Nat.one_and_eq_mod_two]
  generalize a >>> i = q
  have hq : q % 2 = 0 ∨ q % 2 = 1 := by omega
  rcases hq with h | h <;> simp [h]

theorem pow_lt62 (i : Nat) (h : i ≤ 62) : 2 ^ i < 9223372036854775808 := by
  have : 2 ^ i ≤ 2 ^ 62 := Nat.pow_le_pow_right (by omega) h
  have h2 : (2 : Nat) ^ 62 = 4611686018427387904 := by decide
  omega

theorem one_shl (i : Nat) (h : i ≤ 62) : shlA .i64 1 i = ((2 ^ i : Nat) : Int) := by
  have := shl_nat 1 i h (by rw [Nat.one_mul]; exact pow_lt62 i h)
  rw [Nat.one_mul] at this
  exact this
end Go.Abs
end

section
/- The ship's functions keep their contracts: first part. -/
open Go.Proofs
set_option maxRecDepth 100000
set_option linter.unusedVariables false
namespace Go.Abs.Ship
theorem hmix : Try.prog.follows .mixedOrders = true := by kernel_rfl

theorem take_succ_eq {α : Type} (a b : List α) (i : Nat) (ha : i < a.length) (hb : i < b.length) (h : a.take i = b.take i) : a.take (i + 1) = b.take (i + 1) ↔ a[i] = b[i] := by
  have e1 := List.take_succ_eq_append_getElem ha
  have e2 := List.take_succ_eq_append_getElem hb
  rw [e1, e2, h]
  simp only [List.append_cancel_left_eq, List.cons.injEq, and_true]

theorem k16 (hG : Good Try.prog (envOf [])) : v16.Kept Try.prog 16 := by
  rintro ⟨bs, st, fl, ⟨⟩⟩ hpre k hk
  change List (Int × Int) at bs
  change Int at st fl
  refine aspec hmix hG Try.func16 tx16 (Eq.mpr (eq16 bs st fl k) ?_)
  replace hk : k (.bool (great bs)) [] := hk
  unfold vc16
  have : decide (((bs.length : Nat) : Int) > 16) = great bs := by simp only [great, decide_eq_decide]; omega
  rwa [this]

theorem k17 (hG : Good Try.prog (envOf [])) : v17.Kept Try.prog 17 := by
  rintro ⟨l, ⟨⟩⟩ hpre k hk
  change List Int at l
  refine aspec hmix hG Try.func17 tx17 (Eq.mpr (eq17 l k) ?_)
  replace hk : k (.bool (longL l)) [] := hk
  unfold vc17
  have : decide (((l.length : Nat) : Int) > 20) = longL l := by simp only [longL, decide_eq_decide]; omega
  rwa [this]

theorem k30 (hG : Good Try.prog (envOf [])) : v30.Kept Try.prog 30 := by
  rintro ⟨a, b, ⟨⟩⟩ hpre k hk
  change List Int at a b
  refine aspec hmix hG Try.func30 tx30 (Eq.mpr (eq30 a b k) ?_)
  replace hk : k (.bool (eqL a b)) [] := hk
  unfold vc30
  have hl0 : a.length ≤ 1152921504606846976 := hpre.1
  rw [br_bne]
  refine ⟨fun h => ?_, fun h => ?_⟩
  · have : eqL a b = false := by
      simp only [eqL, decide_eq_false_iff_not]
      intro e; subst e; exact h rfl
    rwa [this] at hk
  · have hl : a.length = b.length := by omega
    refine Loop.upto (fun i => (a, b, (i : Int), ())) (fun i => a.take i = b.take i) a.length rfl (by simp) ?_ ?_
    · intro i K hi hp hK
      dsimp only
      rw [br_decide]
      refine ⟨fun _ => ?_, fun h => absurd hi (by omega)⟩
      try simp only [Int.toNat_natCast]
      refine ⟨⟨by omega, by omega⟩, ⟨by omega, by omega⟩, ?_⟩
      rw [br_bne]
      refine ⟨fun h => ?_, fun h => ⟨fits64 (by omega) (by omega), hK ?_⟩⟩
      · have : eqL a b = false := by
          simp only [eqL, decide_eq_false_iff_not]
          intro e; subst e; exact h rfl
        rwa [this] at hk
      · exact (take_succ_eq a b i hi (by omega) hp).2 h
    · intro K hp
      dsimp only
      rw [br_decide]
      refine ⟨fun h => absurd h (by omega), fun _ => ?_⟩
      have : eqL a b = true := by
        rw [List.take_length, hl, List.take_length] at hp
        simp [eqL, hp]
      rwa [this] at hk

theorem earlier_at : ∀ (a b : List Int) (i : Nat) (ha : i < a.length) (hb : i < b.length), a.take i = b.take i → a[i] ≠ b[i] → earlier a b = decide (a[i] < b[i])
  | x :: a, y :: b, 0, _, _, _, h => by
    simp only [List.getElem_cons_zero] at h ⊢
    simp [earlier, h]
  | x :: a, y :: b, i + 1, ha, hb, h, h' => by
    simp only [List.take_succ_cons, List.cons.injEq] at h
    simp only [List.getElem_cons_succ] at h' ⊢
    simp only [earlier, h.1, if_true]
    exact earlier_at a b i (by simpa using ha) (by simpa using hb) h.2 h'
theorem earlier_end : ∀ (a b : List Int) (i : Nat), a.take i = b.take i → (a.length ≤ i ∨ b.length ≤ i) → earlier a b = false
  | [], _, _, _, _ => by simp [earlier]
  | _ :: _, [], _, _, _ => by simp [earlier]
  | x :: a, y :: b, 0, h, h' => by simp at h'
  | x :: a, y :: b, i + 1, h, h' => by
    simp only [List.take_succ_cons, List.cons.injEq] at h
    simp only [earlier, h.1, if_true]
    exact earlier_end a b i h.2 (by simpa using h')
theorem before_at : ∀ (a b : List Int) (i : Nat) (ha : i < a.length) (hb : i < b.length), a.take i = b.take i → a[i] ≠ b[i] → before a b = decide (a[i] < b[i])
  | x :: a, y :: b, 0, _, _, _, h => by
    simp only [List.getElem_cons_zero] at h ⊢
    simp [before, h]
  | x :: a, y :: b, i + 1, ha, hb, h, h' => by
    simp only [List.take_succ_cons, List.cons.injEq] at h
    simp only [List.getElem_cons_succ] at h' ⊢
    simp only [before, h.1, if_true]
    exact before_at a b i (by simpa using ha) (by simpa using hb) h.2 h'
theorem before_end : ∀ (a b : List Int) (i : Nat), a.take i = b.take i → (a.length ≤ i ∨ b.length ≤ i) → before a b = decide (a.length < b.length)
  | [], [], _, _, _ => by simp [before]
  | [], _ :: _, _, _, _ => by simp [before]
  | _ :: _, [], _, _, _ => by simp [before]
  | x :: a, y :: b, 0, h, h' => by simp at h'
  | x :: a, y :: b, i + 1, h, h' => by
    simp only [List.take_succ_cons, List.cons.injEq] at h
    simp only [before, h.1, if_true]
    rw [before_end a b i h.2 (by simpa using h')]
    simp

theorem k46 (hG : Good Try.prog (envOf [])) : v46.Kept Try.prog 46 := by
  rintro ⟨a, b, ⟨⟩⟩ hpre k hk
  change List Int at a b
  refine aspec hmix hG Try.func46 tx46 (Eq.mpr (eq46 a b k) ?_)
  replace hk : k (.bool (earlier a b)) [] := hk
  unfold vc46
  have hl0 : a.length ≤ 1152921504606846976 := hpre.1
  refine Loop.upto (fun i => (a, b, (i : Int), ())) (fun i => i ≤ b.length ∧ a.take i = b.take i) a.length rfl ⟨by omega, by simp⟩ ?_ ?_
  · intro i K hi hp hK
    dsimp only
    rw [br_true]
    refine ⟨fun _ => ?_, fun h => absurd hi (by omega)⟩
    rw [br_decide]
    refine ⟨fun h => ⟨⟨by omega, by omega⟩, ⟨by omega, by omega⟩, ?_⟩, fun h => ?_⟩
    · simp only [Int.toNat_natCast]
      rw [br_bne]
      refine ⟨fun h2 => ⟨⟨by omega, by omega⟩, ⟨by omega, by omega⟩, ?_⟩, fun h2 => ⟨fits64 (by omega) (by omega), hK ⟨by omega, (take_succ_eq a b i hi (by omega) hp.2).2 h2⟩⟩⟩
      rwa [← earlier_at a b i hi (by omega) hp.2 h2]
    · rwa [earlier_end a b i hp.2 (.inr (by omega))] at hk
  · intro K hp
    dsimp only
    rw [br_true]
    refine ⟨fun h => absurd h (by omega), fun _ => ?_⟩
    rwa [earlier_end a b _ hp.2 (.inl (Nat.le_refl _))] at hk

theorem k72 (hG : Good Try.prog (envOf [])) : v72.Kept Try.prog 72 := by
  rintro ⟨a, b, ⟨⟩⟩ hpre k hk
  change List Int at a b
  refine aspec hmix hG Try.func72 tx72 (Eq.mpr (eq72 a b k) ?_)
  replace hk : k (.bool (before a b)) [] := hk
  unfold vc72
  have hl0 : a.length ≤ 1152921504606846976 := hpre.1
  refine Loop.upto (fun i => (a, b, (i : Int), ())) (fun i => i ≤ b.length ∧ a.take i = b.take i) a.length rfl ⟨by omega, by simp⟩ ?_ ?_
  · intro i K hi hp hK
    dsimp only
    rw [br_true]
    refine ⟨fun _ => ?_, fun h => absurd hi (by omega)⟩
    rw [br_decide]
    refine ⟨fun h => ⟨⟨by omega, by omega⟩, ⟨by omega, by omega⟩, ?_⟩, fun h => ?_⟩
    · simp only [Int.toNat_natCast]
      rw [br_bne]
      refine ⟨fun h2 => ⟨⟨by omega, by omega⟩, ⟨by omega, by omega⟩, ?_⟩, fun h2 => ⟨fits64 (by omega) (by omega), hK ⟨by omega, (take_succ_eq a b i hi (by omega) hp.2).2 h2⟩⟩⟩
      rwa [← before_at a b i hi (by omega) hp.2 h2]
    · rw [before_end a b i hp.2 (.inr (by omega))] at hk
      have : decide (((a.length : Nat) : Int) < ((b.length : Nat) : Int)) = decide (a.length < b.length) := by simp only [decide_eq_decide]; omega
      rwa [this]
  · intro K hp
    dsimp only
    rw [br_true]
    refine ⟨fun h => absurd h (by omega), fun _ => ?_⟩
    rw [before_end a b _ hp.2 (.inl (Nat.le_refl _))] at hk
    have : decide (((a.length : Nat) : Int) < ((b.length : Nat) : Int)) = decide (a.length < b.length) := by simp only [decide_eq_decide]; omega
    rwa [this]

/-! the list's rising -/
theorem rises_iff (b : Int) : ∀ (l : List Int) (a : Int), rises a l b = true ↔ (∀ x ∈ l, a ≤ x ∧ x < b) ∧ l.Pairwise (· < ·)
  | [], a => by simp [rises]
  | x :: l, a => by
    simp only [rises, Bool.and_eq_true, decide_eq_true_eq, rises_iff b l (x + 1), List.mem_cons, List.pairwise_cons]
    constructor
    · rintro ⟨h1, h2, h3⟩
      exact ⟨fun y hy => by
        rcases hy with rfl | hy
        · exact h1
        · have := h2 y hy; omega, fun y hy => by have := h2 y hy; omega, h3⟩
    · rintro ⟨h1, h2, h3⟩
      exact ⟨h1 x (.inl rfl), fun y hy => ⟨by have := h2 y hy; omega, (h1 y (.inr hy)).2⟩, h3⟩

theorem isList_iff (l : List Int) (b : Int) : isList l b = true ↔ (∀ i (h : i < l.length), 0 ≤ l[i] ∧ l[i] < b) ∧ ∀ i (h : i + 1 < l.length), l[i] < l[i + 1] := by
  unfold isList
  rw [rises_iff]
  constructor
  · rintro ⟨h1, h2⟩
    exact ⟨fun i h => h1 _ (List.getElem_mem h), fun i h => List.pairwise_iff_getElem.1 h2 i (i + 1) (by omega) h (by omega)⟩
  · rintro ⟨h1, h2⟩
    refine ⟨fun x hx => ?_, ?_⟩
    · obtain ⟨i, hi, rfl⟩ := List.getElem_of_mem hx
      exact h1 i hi
    · rw [List.pairwise_iff_getElem]
      intro i j hi hj hij
      induction j with
      | zero => omega
      | succ j ih =>
        have h3 := h2 j hj
        rcases Nat.lt_or_ge i j with h | h
        · have := ih (by omega) h; omega
        · obtain rfl : i = j := by omega
          exact h3

theorem k47 (hG : Good Try.prog (envOf [])) : v47.Kept Try.prog 47 := by
  rintro ⟨l, b, ⟨⟩⟩ hpre k hk
  change List Int at l
  change Int at b
  refine aspec hmix hG Try.func47 tx47 (Eq.mpr (eq47 l b k) ?_)
  replace hk : k (.bool (isList l b)) [] := hk
  unfold vc47
  have hl0 : l.length ≤ 1152921504606846976 := hpre
  have no : ¬ ((∀ i (h : i < l.length), 0 ≤ l[i] ∧ l[i] < b) ∧ ∀ i (h : i + 1 < l.length), l[i] < l[i + 1]) → k (.bool false) [] := by
    intro h
    have : isList l b = false := by rw [← Bool.not_eq_true, isList_iff]; exact h
    rwa [this] at hk
  refine Loop.upto (fun i => (l, b, (i : Int), ())) (fun i => (∀ j (h : j < l.length), j < i → 0 ≤ l[j] ∧ l[j] < b) ∧ ∀ j (h : j + 1 < l.length), j + 1 < i → l[j] < l[j + 1]) l.length rfl ⟨fun j h h' => by omega, fun j h h' => by omega⟩ ?_ ?_
  · intro i K hi hp hK
    dsimp only
    rw [br_decide]
    refine ⟨fun _ => ?_, fun h => absurd hi (by omega)⟩
    try simp only [Int.toNat_natCast]
    refine ⟨⟨by omega, by omega⟩, ?_⟩
    rw [br_false]
    refine ⟨fun h1 => ⟨⟨by omega, by omega⟩, ?_⟩, fun h1 => ?_⟩
    rw [br_false]
    refine ⟨fun h2 => ?_, fun h2 => ?_⟩
    rw [br_true]
    refine ⟨fun h3 => ⟨⟨by omega, by omega⟩, fits64 (by omega) (by omega), ⟨by omega, by omega⟩, ?_⟩, fun h3 => ⟨fits64 (by omega) (by omega), hK ?_⟩⟩
    rw [br_decide]
    refine ⟨fun h4 => ?_, fun h4 => ⟨fits64 (by omega) (by omega), hK ?_⟩⟩
    · refine no (fun h => ?_)
      have e : ((i : Int) - 1).toNat = i - 1 := by omega
      have := h.2 (i - 1) (by omega)
      simp only [e] at h4
      have e2 : i - 1 + 1 = i := by omega
      simp only [e2] at this
      omega
    · refine ⟨fun j hj hji => ?_, fun j hj hji => ?_⟩
      · rcases Nat.lt_or_ge j i with h | h
        · exact hp.1 j hj h
        · obtain rfl : j = i := by omega
          omega
      · rcases Nat.lt_or_ge (j + 1) i with h | h
        · exact hp.2 j hj h
        · obtain rfl : i = j + 1 := by omega
          have e : (((j + 1 : Nat) : Int) - 1).toNat = j := by omega
          simp only [e] at h4
          omega
    · refine ⟨fun j hj hji => ?_, fun j hj hji => ?_⟩
      · rcases Nat.lt_or_ge j i with h | h
        · exact hp.1 j hj h
        · obtain rfl : j = i := by omega
          omega
      · exact hp.2 j hj (by omega)
    · exact no (fun h => by have := h.1 i hi; omega)
    · exact no (fun h => by have := h.1 i hi; omega)
  · intro K hp
    dsimp only
    rw [br_decide]
    refine ⟨fun h => absurd h (by omega), fun _ => ?_⟩
    have : isList l b = true := (isList_iff l b).2 ⟨fun i h => hp.1 i h h, fun i h => hp.2 i h h⟩
    rwa [this] at hk

/-! ### bits -/
theorem toNat_eq {n : Int} (h : 0 ≤ n) : n = ((n.toNat : Nat) : Int) := by omega

theorem listed_succ (b i : Nat) : listed b (i + 1) = listed b i ++ (if b.testBit i then [(i : Int)] else []) := by
  unfold listed
  rw [List.range_succ, List.filter_append, List.map_append]
  by_cases h : b.testBit i = true <;> simp [h]

theorem listed_len (b n : Nat) : (listed b n).length ≤ n := by
  unfold listed
  rw [List.length_map]
  exact Nat.le_trans (List.length_filter_le _ _) (by simp)

theorem k44 (hG : Good Try.prog (envOf [])) : v44.Kept Try.prog 44 := by
  rintro ⟨bits, below, ⟨⟩⟩ hpre k hk
  change Int at bits below
  refine aspec hmix hG Try.func44 tx44 (Eq.mpr (eq44 bits below k) ?_)
  unfold vc44
  obtain ⟨⟨h1, h2⟩, h3, h4⟩ := hpre
  have h1 : 0 ≤ bits := h1
  have h2 : bits < 4611686018427387904 := h2
  have h3 : 0 ≤ below := h3
  have h4 : below ≤ 40 := h4
  replace hk : k (.reg 0 false) [.sl (.int .i64) (listed bits.toNat below.toNat)] := hk
  obtain ⟨b, rfl⟩ := Int.eq_ofNat_of_zero_le h1
  obtain ⟨n, rfl⟩ := Int.eq_ofNat_of_zero_le h3
  simp only [Int.toNat_natCast] at hk
  refine Loop.upto (fun i => ((b : Int), (n : Int), (i : Int), listed b i, ())) (fun i => True) n rfl trivial ?_ ?_
  · intro i K hi hp hK
    dsimp only
    rw [br_decide]
    refine ⟨fun _ => ?_, fun h => absurd hi (by omega)⟩
    try simp only [Int.toNat_natCast]
    have hlen := listed_len b i
    have hs := listed_succ b i
    refine ⟨by omega, ?_⟩
    rw [bit_test b i (by omega)]
    have hK := hK trivial
    refine br_intro (fun h => ⟨by simp [big]; omega, fits64 (by omega) (by omega), ?_⟩) (fun h => ⟨fits64 (by omega) (by omega), ?_⟩)
    · rw [hs, if_pos h] at hK
      exact hK
    · rw [hs, if_neg (by simp [h]), List.append_nil] at hK
      exact hK
  · intro K hp
    dsimp only
    rw [br_decide]
    refine ⟨fun h => absurd h (by omega), fun _ => ?_⟩
    exact hk

theorem k50 (hG : Good Try.prog (envOf [])) : v50.Kept Try.prog 50 := by
  rintro ⟨l, ⟨⟩⟩ hpre k hk
  change List Int at l
  refine aspec hmix hG Try.func50 tx50 (Eq.mpr (eq50 l k) ?_)
  replace hk : k (.imm (.int .i64) l false) [] := hk
  unfold vc50
  exact hk

theorem k42 (hG : Good Try.prog (envOf [])) : v42.Kept Try.prog 42 := by
  rintro ⟨st, fl, bs, ⟨⟩⟩ hpre k hk
  change Int at st fl
  change List (Int × Int) at bs
  refine aspec hmix hG Try.func42 tx42 (Eq.mpr (eq42 st fl bs k) ?_)
  replace hk : k (.agg [.imm (.pair (.int .i64) (.int .i64)) bs false, rI st, rI fl]) [] := hk
  unfold vc42
  exact hk

theorem pairsUp_append : ∀ (l : List Int) (i j : Nat), j = 2 * i → ∀ (h : j + 1 < l.length), pairsUp (l.take (j + 2)) = pairsUp (l.take j) ++ [(l[j], l[j + 1])]
  | a :: b :: l, 0, j, e, h => by
    obtain rfl : j = 0 := by omega
    simp [pairsUp]
  | a :: b :: l, i + 1, j, e, h => by
    obtain ⟨j, rfl⟩ : ∃ j', j = j' + 2 := ⟨j - 2, by omega⟩
    have ih := pairsUp_append l i j (by omega) (by simp at h; omega)
    simp only [List.take_succ_cons, pairsUp, List.getElem_cons_succ, List.cons_append, List.cons.injEq, true_and]
    exact ih
  | [a], i, j, e, h => by simp at h
  | [], i, j, e, h => by simp at h
theorem pairsUp_len : ∀ (l : List Int), (pairsUp l).length ≤ l.length
  | a :: b :: l => by have := pairsUp_len l; simp [pairsUp]; omega
  | [a] => by simp [pairsUp]
  | [] => by simp [pairsUp]
theorem pairsUp_end : ∀ (l : List Int) (i : Nat), l.length ≤ 2 * i + 1 → pairsUp (l.take (2 * i)) = pairsUp l
  | a :: b :: l, 0, h => by simp at h
  | a :: b :: l, i + 1, h => by
    have e2 : 2 * (i + 1) = 2 * i + 1 + 1 := by omega
    simp only [e2, List.take_succ_cons, pairsUp]
    rw [pairsUp_end l i (by simp at h; omega)]
  | [a], 0, h => by simp [pairsUp]
  | [a], i + 1, h => by
    have e2 : 2 * (i + 1) = 2 * i + 1 + 1 := by omega
    simp [e2, pairsUp]
  | [], i, h => by simp [pairsUp]

theorem k75 (hG : Good Try.prog (envOf [])) : v75.Kept Try.prog 75 := by
  rintro ⟨l, ⟨⟩⟩ hpre k hk
  change List Int at l
  refine aspec hmix hG Try.func75 tx75 (Eq.mpr (eq75 l k) ?_)
  replace hk : k (.reg 0 false) [.sl (.pair (.int .i64) (.int .i64)) (pairsUp l)] := hk
  unfold vc75
  have hl0 : l.length ≤ 1000 := hpre
  refine Loop.upto (fun i => (l, ((2 * i : Nat) : Int), pairsUp (l.take (2 * i)), ())) (fun i => True) (l.length / 2) rfl trivial ?_ ?_
  · intro i K hi _ hK
    dsimp only
    refine ⟨fits64 (by omega) (by omega), ?_⟩
    rw [br_decide]
    refine ⟨fun _ => ⟨⟨by omega, by omega⟩, fits64 (by omega) (by omega), ⟨by omega, by omega⟩, ?_, fits64 (by omega) (by omega), ?_⟩, fun h => absurd hi (by omega)⟩
    · have := pairsUp_len (l.take (2 * i))
      simp [big] at this ⊢; omega
    · have e := pairsUp_append l i (2 * i) rfl (by omega)
      have e1 : (((2 * i : Nat) : Int) + 1).toNat = 2 * i + 1 := by omega
      have e2 : ((2 * i : Nat) : Int) + 2 = ((2 * (i + 1) : Nat) : Int) := by omega
      simp only [Int.toNat_natCast, e1]
      have hK := hK trivial
      have e3 : 2 * (i + 1) = 2 * i + 2 := by omega
      rw [← e2, e3, e] at hK
      exact hK
  · intro K _
    dsimp only
    refine ⟨fits64 (by omega) (by omega), ?_⟩
    rw [br_decide]
    refine ⟨fun h => absurd h (by omega), fun _ => ?_⟩
    rw [pairsUp_end l _ (by omega)]
    exact hk

theorem k49 (hG : Good Try.prog (envOf [(75, mkC [v75]), (42, mkC [v42])])) : v49.Kept Try.prog 49 := by
  rintro ⟨st, fl, ⟨⟩⟩ hpre k hk
  change Int at st fl
  refine aspec hmix hG Try.func49 tx49 (Eq.mpr (eq49 st fl k) ?_)
  replace hk : k (.agg [.imm (.pair (.int .i64) (.int .i64)) sixB false, rI st, rI fl]) [] := hk
  unfold vc49
  exact ⟨by show (12 : Nat) ≤ 1000; omega, trivial, hk⟩

/-! ### searches -/
theorem indexOf_none {α : Type} (p : α → Bool) : ∀ (l : List α), (∀ x ∈ l, p x = false) → indexOf p l = -1
  | [], _ => rfl
  | x :: l, h => by
    unfold indexOf
    rw [h x (by simp), indexOf_none p l (fun y hy => h y (List.mem_cons_of_mem _ hy))]
    simp
theorem indexOf_some {α : Type} (p : α → Bool) : ∀ (l : List α) (i : Nat) (hi : i < l.length), (∀ x ∈ l.take i, p x = false) → p l[i] = true → indexOf p l = (i : Int)
  | x :: l, 0, _, _, h => by
    unfold indexOf
    simp only [List.getElem_cons_zero] at h
    rw [h]; rfl
  | x :: l, i + 1, hi, h1, h2 => by
    unfold indexOf
    rw [h1 x (by simp), indexOf_some p l i (by simpa using hi) (fun y hy => h1 y (by simp [hy])) (by simpa using h2)]
    simp only [Bool.false_eq_true, if_false]
    rw [if_neg (by omega)]
    omega
theorem indexOf_ge {α : Type} (p : α → Bool) (l : List α) : decide (indexOf p l ≥ 0) = l.any p := by
  induction l with
  | nil => simp [indexOf]
  | cons x l ih =>
    unfold indexOf
    rw [List.any_cons]
    cases hx : p x with
    | true => simp
    | false =>
      simp only [Bool.false_eq_true, if_false, Bool.false_or]
      rw [← ih]
      by_cases h : indexOf p l < 0
      · rw [if_pos h]
        have : ¬ indexOf p l ≥ 0 := by omega
        simp [this]
      · rw [if_neg h]
        have h1 : indexOf p l ≥ 0 := by omega
        have h2 : indexOf p l + 1 ≥ 0 := by omega
        simp [h1, h2]

theorem take_all_succ {α : Type} (p : α → Bool) (l : List α) (i : Nat) (hi : i < l.length) (h : ∀ x ∈ l.take i, p x = false) (h2 : p l[i] = false) : ∀ x ∈ l.take (i + 1), p x = false := by
  intro x hx
  rw [List.take_succ_eq_append_getElem hi, List.mem_append] at hx
  rcases hx with hx | hx
  · exact h x hx
  · simp only [List.mem_singleton] at hx; subst hx; exact h2

theorem k78 (hG : Good Try.prog (envOf [])) : v78.Kept Try.prog 78 := by
  rintro ⟨n, lo, hi, ⟨⟩⟩ hpre k hk
  change Int at n lo hi
  refine aspec hmix hG Try.func78 tx78 (Eq.mpr (eq78 n lo hi k) ?_)
  replace hk : k (.bool (outOf lo hi n)) [] := hk
  unfold vc78
  rw [br_false]
  refine ⟨fun h => ?_, fun h => ?_⟩
  · have : outOf lo hi n = decide (n > hi) := by simp only [outOf, decide_eq_decide]; omega
    rwa [this] at hk
  · have : outOf lo hi n = true := by simp [outOf, h]
    rwa [this] at hk

theorem k93a (hG : Good Try.prog (envOf [(78, mkC [v78])])) : v93a.Kept Try.prog 93 := by
  rintro ⟨l, lo, hi, ⟨⟩⟩ hpre k hk
  change List Int at l
  change Int at lo hi
  refine aspec hmix hG Try.func93 tx93 (Eq.mpr (eq93a l lo hi k) ?_)
  replace hk : k (rI (indexOut lo hi l)) [] := hk
  unfold vc93a
  have hl0 : l.length ≤ 1152921504606846976 := hpre
  refine Loop.upto (fun i => (l, lo, hi, ((l.length : Nat) : Int), (i : Int), ())) (fun i => ∀ y ∈ l.take i, outOf lo hi y = false) l.length rfl (by simp) ?_ ?_
  · intro j K_j hj hp_j hK_j
    dsimp only
    rw [br_decide]
    refine ⟨fun _ => ?_, fun h => absurd hj (by omega)⟩
    try simp only [Int.toNat_natCast]
    refine ⟨⟨by omega, by omega⟩, trivial, ?_⟩
    refine br_intro (fun h => ?_) (fun h => ⟨fits64 (by omega) (by omega), hK_j (take_all_succ _ _ _ hj hp_j h)⟩)
    have : indexOut lo hi l = (j : Int) := indexOf_some _ l j hj hp_j h
    rwa [this] at hk
  · intro K hp
    dsimp only
    rw [br_decide]
    refine ⟨fun h => absurd h (by omega), fun _ => ?_⟩
    rw [List.take_length] at hp
    have : indexOut lo hi l = -1 := indexOf_none _ l hp
    rwa [this] at hk

theorem k77 (hG : Good Try.prog (envOf [(93, mkC [v93a])])) : v77.Kept Try.prog 77 := by
  rintro ⟨l, lo, hi, ⟨⟩⟩ hpre k hk
  change List Int at l
  change Int at lo hi
  refine aspec hmix hG Try.func77 tx77 (Eq.mpr (eq77 l lo hi k) ?_)
  replace hk : k (.bool (anyOut lo hi l)) [] := hk
  unfold vc77
  refine ⟨hpre, ?_⟩
  have : decide (indexOut lo hi l ≥ 0) = anyOut lo hi l := indexOf_ge _ l
  rwa [this]

theorem k59 (hG : Good Try.prog (envOf [(77, mkC [v77])])) : v59.Kept Try.prog 59 := by
  rintro ⟨lo, hi, l, ⟨⟩⟩ hpre k hk
  change Int at lo hi
  change List Int at l
  refine aspec hmix hG Try.func59 tx59 (Eq.mpr (eq59 lo hi l k) ?_)
  replace hk : k (.bool (Bool.not (anyOut lo hi l))) [] := hk
  unfold vc59
  exact ⟨hpre, hk⟩

theorem anyOut_one (lo hi n : Int) : anyOut lo hi [n] = outOf lo hi n := by simp [anyOut]

theorem k58 (hG : Good Try.prog (envOf [(59, mkC [v59])])) : v58.Kept Try.prog 58 := by
  rintro ⟨p, w, ⟨⟩⟩ hpre k hk
  change Int at p w
  refine aspec hmix hG Try.func58 tx58 (Eq.mpr (eq58 p w k) ?_)
  replace hk : k (.bool (badBox (p, w))) [] := hk
  unfold vc58
  refine ⟨by show (1 : Nat) ≤ big60; decide, ?_⟩
  rw [br_bf, anyOut_one]
  refine ⟨fun h => ?_, fun h => ?_⟩
  · rw [br_false]
    have h : outOf 1 20 p = false := by simpa using h
    simp only [outOf, decide_eq_false_iff_not] at h
    refine ⟨fun h2 => ?_, fun h2 => ?_⟩
    · have : badBox (p, w) = decide (w > 100) := by simp only [badBox, decide_eq_decide]; omega
      rwa [this] at hk
    · have : badBox (p, w) = true := by simp [badBox]; omega
      rwa [this] at hk
  · have h : outOf 1 20 p = true := by simpa using h
    simp only [outOf, decide_eq_true_eq] at h
    have : badBox (p, w) = true := by simp [badBox]; omega
    rwa [this] at hk

theorem k79 (hG : Good Try.prog (envOf [(58, mkC [v58])])) : v79.Kept Try.prog 79 := by
  rintro ⟨bs, ⟨⟩⟩ hpre k hk
  change List (Int × Int) at bs
  refine aspec hmix hG Try.func79 tx79 (Eq.mpr (eq79 bs k) ?_)
  replace hk : k (rI (badAt bs)) [] := hk
  unfold vc79
  have hl0 : bs.length ≤ 1152921504606846976 := hpre
  refine Loop.upto (fun i => (bs, ((bs.length : Nat) : Int), (i : Int), ())) (fun i => ∀ y ∈ bs.take i, badBox y = false) bs.length rfl (by simp) ?_ ?_
  · intro i K hi hp hK
    dsimp only
    rw [br_decide]
    refine ⟨fun _ => ?_, fun h => absurd hi (by omega)⟩
    try simp only [Int.toNat_natCast]
    refine ⟨⟨by omega, by omega⟩, trivial, ?_⟩
    refine br_intro (fun h => ?_) (fun h => ⟨fits64 (by omega) (by omega), hK (take_all_succ _ _ _ hi hp h)⟩)
    have : badAt bs = (i : Int) := indexOf_some _ bs i hi hp h
    rwa [this] at hk
  · intro K hp
    dsimp only
    rw [br_decide]
    refine ⟨fun h => absurd h (by omega), fun _ => ?_⟩
    rw [List.take_length] at hp
    have : badAt bs = -1 := indexOf_none _ bs hp
    rwa [this] at hk

theorem k60 (hG : Good Try.prog (envOf [(79, mkC [v79])])) : v60.Kept Try.prog 60 := by
  rintro ⟨bs, ⟨⟩⟩ hpre k hk
  change List (Int × Int) at bs
  refine aspec hmix hG Try.func60 tx60 (Eq.mpr (eq60 bs k) ?_)
  replace hk : k (.bool (anyBad bs)) [] := hk
  unfold vc60
  refine ⟨hpre, ?_⟩
  have : decide (badAt bs ≥ 0) = anyBad bs := indexOf_ge _ bs
  rwa [this]

theorem k21 (hG : Good Try.prog (envOf [(59, mkC [v59]), (60, mkC [v60])])) : v21.Kept Try.prog 21 := by
  rintro ⟨bs, st, fl, ⟨⟩⟩ hpre k hk
  change List (Int × Int) at bs
  change Int at st fl
  refine aspec hmix hG Try.func21 tx21 (Eq.mpr (eq21 bs st fl k) ?_)
  replace hk : k (rI (checkLoad bs st fl)) [] := hk
  unfold vc21
  have hl0 : bs.length ≤ 16 := hpre
  rw [br_false]
  refine ⟨fun h => ⟨by show (1 : Nat) ≤ big60; decide, ?_⟩, fun h => ?_⟩
  rotate_left
  · have : checkLoad bs st fl = 6 := by unfold checkLoad; rw [if_pos (by omega)]
    rwa [this] at hk
  rw [anyOut_one, Bool.not_not]
  refine br_intro (fun h1 => ?_) (fun h1 => ?_)
  · simp only [outOf, decide_eq_true_eq] at h1
    have : checkLoad bs st fl = 6 := by unfold checkLoad; rw [if_pos (by omega)]
    rwa [this] at hk
  simp only [outOf, decide_eq_false_iff_not] at h1
  have e : checkLoad bs st fl = if fl < 1 ∨ 1000 < fl ∨ anyBad bs = true then 3 else 0 := by unfold checkLoad; rw [if_neg (by omega)]
  rw [e] at hk
  rw [br_false]
  refine ⟨fun h2 => ?_, fun h2 => ?_⟩
  rotate_left
  · rwa [if_pos (by omega)] at hk
  rw [br_false]
  refine ⟨fun h3 => ⟨by show bs.length ≤ big60; simp only [big60]; omega, ?_⟩, fun h3 => ?_⟩
  rotate_left
  · rwa [if_pos (by omega)] at hk
  refine br_intro (fun h4 => ?_) (fun h4 => ?_)
  · rwa [if_pos (.inr (.inr h4))] at hk
  · rwa [if_neg (by simp [h4]; omega)] at hk

theorem anyBad_take (bs : List (Int × Int)) (h : ∀ y ∈ bs.take bs.length, badBox y = false) : anyBad bs = false := by
  rw [List.take_length] at h
  unfold anyBad
  rw [← Bool.not_eq_true, List.any_eq_true]
  rintro ⟨x, hx, hb⟩
  rw [h x hx] at hb; cases hb

theorem k22 (hG : Good Try.prog (envOf [])) : v22.Kept Try.prog 22 := by
  rintro ⟨bs, st, fl, ⟨⟩⟩ hpre k hk
  change List (Int × Int) at bs
  change Int at st fl
  refine aspec hmix hG Try.func22 tx22 (Eq.mpr (eq22 bs st fl k) ?_)
  replace hk : k (rI (checkLoad bs st fl)) [] := hk
  unfold vc22
  have hl0 : bs.length ≤ 16 := hpre
  have six : (9 < bs.length ∨ st < 1 ∨ 5 < st) → k (rI 6) [] := by
    intro h
    have : checkLoad bs st fl = 6 := by unfold checkLoad; rw [if_pos h]
    rwa [this] at hk
  rw [br_false]
  refine ⟨fun h => ?_, fun h => six (by omega)⟩
  rw [br_false]
  refine ⟨fun h0 => ?_, fun h0 => six (by omega)⟩
  rw [br_decide]
  refine ⟨fun h1 => six (by omega), fun h1 => ?_⟩
  have e : checkLoad bs st fl = if fl < 1 ∨ 1000 < fl ∨ anyBad bs = true then 3 else 0 := by unfold checkLoad; rw [if_neg (by omega)]
  rw [e] at hk
  rw [br_false]
  refine ⟨fun h2 => ?_, fun h2 => ?_⟩
  rotate_left
  · rwa [if_pos (by omega)] at hk
  rw [br_decide]
  refine ⟨fun h3 => ?_, fun h3 => ?_⟩
  · rwa [if_pos (by omega)] at hk
  refine Loop.upto (fun i => ((i : Int), bs, st, fl, ())) (fun i => ∀ y ∈ bs.take i, badBox y = false) bs.length rfl (by simp) ?_ ?_
  · intro i K hi hp hK
    dsimp only
    rw [br_decide]
    refine ⟨fun _ => ?_, fun h => absurd hi (by omega)⟩
    try simp only [Int.toNat_natCast]
    have bad : badBox bs[i] = true → k (rI 3) [] := by
      intro hb
      rwa [if_pos (.inr (.inr (List.any_eq_true.2 ⟨_, List.getElem_mem hi, hb⟩)))] at hk
    simp only [badBox, decide_eq_true_eq] at bad
    refine ⟨⟨by omega, by omega⟩, ?_⟩
    rw [br_false]
    refine ⟨fun h4 => ?_, fun h4 => bad (by omega)⟩
    rw [br_false]
    refine ⟨fun h5 => ?_, fun h5 => bad (by omega)⟩
    rw [br_false]
    refine ⟨fun h6 => ?_, fun h6 => bad (by omega)⟩
    rw [br_decide]
    refine ⟨fun h7 => bad (by omega), fun h7 => ⟨fits64 (by omega) (by omega), hK (take_all_succ _ _ _ hi hp ?_)⟩⟩
    simp only [badBox, decide_eq_false_iff_not]
    omega
  · intro K hp
    dsimp only
    rw [br_decide]
    refine ⟨fun h => absurd h (by omega), fun _ => ?_⟩
    have hb := anyBad_take bs hp
    rwa [if_neg (by simp [hb]; omega)] at hk

theorem k40 (hG : Good Try.prog (envOf [(16, mkC [v16]), (22, mkC [v22])])) : v40.Kept Try.prog 40 := by
  rintro ⟨bs, st, fl, ⟨⟩⟩ hpre k hk
  change List (Int × Int) at bs
  change Int at st fl
  refine aspec hmix hG Try.func40 tx40 (Eq.mpr (eq40 bs st fl k) ?_)
  replace hk : k (.bool (fine bs st fl)) [] := hk
  unfold vc40
  refine ⟨trivial, ?_⟩
  rw [br_bt]
  refine ⟨fun h => ?_, fun h => ?_⟩
  · have hg : great bs = false := by simpa using h
    refine ⟨by simp [great] at hg; exact hg, ?_⟩
    have : fine bs st fl = (checkLoad bs st fl == 0) := by simp [fine, hg, clIs]; rfl
    rwa [this] at hk
  · have hg : great bs = true := by simpa using h
    have : fine bs st fl = false := by simp [fine, hg]
    rwa [this] at hk

theorem load_codes (bs : List (Int × Int)) (st fl : Int) : checkLoad bs st fl = 0 ∨ checkLoad bs st fl = 6 ∨ checkLoad bs st fl = 3 := by
  unfold checkLoad
  split
  · simp
  · split <;> simp

/-- The tree of what can be. -/
theorem br_errs {bs : List (Int × Int)} {st fl : Int} {p : Int → Prop} {q : Prop} (h : checkLoad bs st fl ≠ 0 → p (checkLoad bs st fl)) (h' : checkLoad bs st fl = 0 → q) :
    br (clIs bs st fl 6) (p 6) (br (clIs bs st fl 3) (p 3) q) := by
  simp only [br_iff, clIs, decide_eq_true_eq, decide_eq_false_iff_not]
  rcases load_codes bs st fl with e | e | e <;> rw [e] at h h' ⊢ <;> simp at h h' ⊢ <;> first | exact h | exact h'
theorem errs_br {bs : List (Int × Int)} {st fl : Int} {p : Int → Prop} {q : Prop} (h : br (clIs bs st fl 6) (p 6) (br (clIs bs st fl 3) (p 3) q)) :
    (checkLoad bs st fl ≠ 0 → p (checkLoad bs st fl)) ∧ (checkLoad bs st fl = 0 → q) := by
  simp only [br_iff, clIs, decide_eq_true_eq, decide_eq_false_iff_not] at h
  rcases load_codes bs st fl with e | e | e <;> rw [e] at h ⊢ <;> simp at h ⊢ <;> exact h

theorem k61 (hG : Good Try.prog (envOf [(21, mkC [v21])])) : v61.Kept Try.prog 61 := by
  rintro ⟨bs, st, fl, ⟨⟩⟩ hpre k hk
  change List (Int × Int) at bs
  change Int at st fl
  refine aspec hmix hG Try.func61 tx61 (Eq.mpr (eq61 bs st fl k) ?_)
  unfold vc61
  obtain ⟨h1, h2⟩ := errs_br (bs := bs) (st := st) (fl := fl) (p := fun e => k (.tup [nilA, rI e]) []) (q := k (.tup [hold bs st fl, rI 0]) []) hk
  refine ⟨hpre, ?_⟩
  rw [br_bne]
  exact ⟨fun h => h1 h, fun h => h2 h⟩

theorem pt_eq {bs : List (Int × Int)} {i : Nat} (h : i < bs.length) : pt bs (i : Int) = bs[i].1 := by
  unfold pt
  rw [Int.toNat_natCast, List.getD_eq_getElem?_getD, List.getElem?_eq_getElem h]; rfl
theorem wt_eq {bs : List (Int × Int)} {i : Nat} (h : i < bs.length) : wt bs (i : Int) = bs[i].2 := by
  unfold wt
  rw [Int.toNat_natCast, List.getD_eq_getElem?_getD, List.getElem?_eq_getElem h]; rfl

theorem k83 (hG : Good Try.prog (envOf [])) : v83.Kept Try.prog 83 := by
  rintro ⟨bs, st, fl, box, on, ⟨⟩⟩ hpre k hk
  change List (Int × Int) at bs
  change Int at st fl
  change Int at box on
  refine aspec hmix hG Try.func83 tx83 (Eq.mpr (eq83 bs st fl box on k) ?_)
  replace hk : k (.bool (liesOn bs box on)) [] := hk
  unfold vc83
  obtain ⟨h1, h2⟩ := hpre
  have h1 : 0 ≤ box ∧ box < (bs.length : Int) := h1
  have h2 : 0 ≤ on ∧ on < (bs.length : Int) := h2
  obtain ⟨a, rfl⟩ := Int.eq_ofNat_of_zero_le h1.1
  obtain ⟨b, rfl⟩ := Int.eq_ofNat_of_zero_le h2.1
  refine ⟨⟨by omega, by omega⟩, ⟨by omega, by omega⟩, ?_⟩
  have : liesOn bs (a : Int) (b : Int) = decide (bs[a].1 ≤ bs[b].1) := by rw [liesOn, pt_eq (by omega), pt_eq (by omega)]
  rwa [this] at hk

theorem allOf_take (n i : Nat) (h : i < n) : ((List.range n).take (i + 1)).map Int.ofNat = ((List.range n).take i).map Int.ofNat ++ [(i : Int)] := by
  rw [List.take_succ_eq_append_getElem (by simpa using h), List.map_append]
  simp

theorem k63 (hG : Good Try.prog (envOf [])) : v63.Kept Try.prog 63 := by
  rintro ⟨bs, st, fl, ⟨⟩⟩ hpre k hk
  change List (Int × Int) at bs
  change Int at st fl
  refine aspec hmix hG Try.func63 tx63 (Eq.mpr (eq63 bs st fl k) ?_)
  replace hk : k (.reg 0 false) [.sl (.int .i64) (allOf bs)] := hk
  unfold vc63
  have hl0 : bs.length ≤ 1000 := hpre
  refine Loop.upto (fun i => (((bs.length : Nat) : Int), (i : Int), ((List.range bs.length).take i).map Int.ofNat, ())) (fun i => True) bs.length rfl trivial ?_ ?_
  · intro i K hi hp hK
    dsimp only
    rw [br_decide]
    refine ⟨fun _ => ?_, fun h => absurd hi (by omega)⟩
    try simp only [Int.toNat_natCast]
    have hK := hK trivial
    rw [allOf_take _ _ hi] at hK
    exact ⟨by simp [big]; omega, fits64 (by omega) (by omega), hK⟩
  · intro K hp
    dsimp only
    rw [br_decide]
    refine ⟨fun h => absurd h (by omega), fun _ => ?_⟩
    have e : ((List.range bs.length).take bs.length).map Int.ofNat = allOf bs := by
      have : List.take bs.length (List.range bs.length) = List.range bs.length := by rw [List.take_of_length_le (by simp)]
      rw [this]; rfl
    rw [e]
    exact hk

theorem k54 (hG : Good Try.prog (envOf [])) : v54.Kept Try.prog 54 := by
  rintro ⟨a, b, ⟨⟩⟩ hpre k hk
  change Int at a b
  refine aspec hmix hG Try.func54 tx54 (Eq.mpr (eq54 a b k) ?_)
  replace hk : k (.bool (decide (a > b))) [] := hk
  unfold vc54
  exact hk

theorem max_if (y x : Int) : max y x = if x > y then x else y := by
  rw [Int.max_def]
  split <;> split <;> omega
theorem maxL_take {l : List Int} (h0 : 0 < l.length) {i : Nat} (hi : i + 1 < l.length) : maxL (l.take (i + 2)) = if l[i + 1] > maxL (l.take (i + 1)) then l[i + 1] else maxL (l.take (i + 1)) := by
  cases l with
  | nil => simp at h0
  | cons a l =>
    have e : (a :: l).take (i + 2) = a :: l.take (i + 1) := rfl
    have e2 : (a :: l).take (i + 1) = a :: l.take i := rfl
    simp only [List.length_cons] at hi
    rw [e, e2, List.take_succ_eq_append_getElem (by omega)]
    simp only [maxL, List.foldl_append, List.foldl_cons, List.foldl_nil, List.getElem_cons_succ]
    exact max_if _ _
theorem maxL_one {l : List Int} (h0 : 0 < l.length) : maxL (l.take 1) = l[0] := by
  cases l with
  | nil => simp at h0
  | cons a l => simp [maxL]

theorem k53 (hG : Good Try.prog (envOf [(54, mkC [v54])])) : v53.Kept Try.prog 53 := by
  rintro ⟨l, ⟨⟩⟩ hpre k hk
  change List Int at l
  refine aspec hmix hG Try.func53 tx53 (Eq.mpr (eq53 l k) ?_)
  replace hk : k (rI (maxL l)) [] := hk
  unfold vc53
  obtain ⟨h0, hl0⟩ := hpre
  have h0 : 0 < l.length := h0
  have hl0 : l.length ≤ 1152921504606846976 := hl0
  refine ⟨⟨by omega, by omega⟩, ⟨by omega, by omega⟩, ?_⟩
  have e1 : (1 : Int).toNat = 1 := rfl
  simp only [e1]
  have hd : (l.drop 1).length = l.length - 1 := by simp
  have e0 : l[(0 : Int).toNat] = maxL (l.take 1) := (maxL_one h0).symm
  rw [e0]
  refine Loop.upto (fun i => (maxL (l.take (i + 1)), l.drop 1, (((l.drop 1).length : Nat) : Int), (i : Int), ())) (fun i => True) (l.length - 1) rfl trivial ?_ ?_
  · intro i K hi hp hK
    dsimp only
    rw [br_decide]
    refine ⟨fun _ => ⟨⟨by omega, by omega⟩, trivial, ?_⟩, fun h => absurd hi (by omega)⟩
    simp only [Int.toNat_natCast]
    have hK := hK trivial
    have eg : (l.drop 1)[i]'(by omega) = l[i + 1] := by simp
    rw [maxL_take h0 (by omega)] at hK
    rw [br_decide, eg]
    refine ⟨fun h => ⟨fits64 (by omega) (by omega), ?_⟩, fun h => ⟨fits64 (by omega) (by omega), ?_⟩⟩
    · rw [if_pos h] at hK; exact hK
    · rw [if_neg h] at hK; exact hK
  · intro K hp
    dsimp only
    rw [br_decide]
    refine ⟨fun h => absurd h (by omega), fun _ => ?_⟩
    have e : l.length - 1 + 1 = l.length := by omega
    rw [e, List.take_length]
    exact hk

theorem k85 (hG : Good Try.prog (envOf [])) : v85.Kept Try.prog 85 := by
  rintro ⟨l, ⟨⟩⟩ hpre k hk
  change List Int at l
  refine aspec hmix hG Try.func85 tx85 (Eq.mpr (eq85 l k) ?_)
  replace hk : k (rI (maxL l)) [] := hk
  unfold vc85
  obtain ⟨h0, hl0⟩ := hpre
  have h0 : 0 < l.length := h0
  have hl0 : l.length ≤ 1152921504606846976 := hl0
  rw [br_decide]
  refine ⟨fun h => by omega, fun _ => ⟨⟨by omega, by omega⟩, ?_⟩⟩
  have e0 : l[(0 : Int).toNat] = maxL (l.take 1) := (maxL_one h0).symm
  rw [e0]
  refine Loop.upto (fun i => (l, maxL (l.take (i + 1)), ((i + 1 : Nat) : Int), ())) (fun i => True) (l.length - 1) rfl trivial ?_ ?_
  · intro i K hi hp hK
    dsimp only
    rw [br_decide]
    refine ⟨fun _ => ⟨⟨by omega, by omega⟩, fits64 (by omega) (by omega), ?_⟩, fun h => absurd hi (by omega)⟩
    simp only [Int.toNat_natCast]
    have hK := hK trivial
    rw [maxL_take h0 (by omega)] at hK
    exact hK
  · intro K hp
    dsimp only
    rw [br_decide]
    refine ⟨fun h => absurd h (by omega), fun _ => ?_⟩
    have e : l.length - 1 + 1 = l.length := by omega
    rw [e, List.take_length]
    exact hk
end Go.Abs.Ship
end

section
/- Plain laws of maps of one's own: what is found after an update, after a deletion; what a walk has left. -/
namespace Go.Abs

theorem mhas_cons (t : Ty) (e : Nat × t.den × Int) (l : MEnts t) (x : t.den) : mhas t (e :: l) x = (t.beq x e.2.1 || mhas t l x) := rfl
theorem mval_cons (t : Ty) (e : Nat × t.den × Int) (l : MEnts t) (x : t.den) : mval t (e :: l) x = if t.beq x e.2.1 then e.2.2 else mval t l x := rfl

theorem beq_self {t : Ty} (ht : t.ints = true) (x : t.den) : t.beq x x = true := (beq_eq t x x ht).2 rfl
theorem beq_ne {t : Ty} (ht : t.ints = true) {x y : t.den} (h : x ≠ y) : t.beq x y = false := by
  rw [← Bool.not_eq_true, beq_eq t _ _ ht]; exact h

theorem mhas_iff {t : Ty} (ht : t.ints = true) (l : MEnts t) (x : t.den) : mhas t l x = true ↔ ∃ e ∈ l, e.2.1 = x := by
  unfold mhas
  rw [List.any_eq_true]
  constructor
  · rintro ⟨e, h, h'⟩; exact ⟨e, h, ((beq_eq t _ _ ht).1 h').symm⟩
  · rintro ⟨e, h, h'⟩; exact ⟨e, h, (beq_eq t _ _ ht).2 h'.symm⟩

/-- What is there at a key. -/
def mat (t : Ty) (l : MEnts t) (x : t.den) : Option Int := if mhas t l x then some (mval t l x) else none

theorem mat_has {t : Ty} {l : MEnts t} {x : t.den} : mhas t l x = (mat t l x).isSome := by
  unfold mat; cases mhas t l x <;> rfl
theorem mat_val {t : Ty} {l : MEnts t} {x : t.den} {v : Int} (h : mat t l x = some v) : mval t l x = v := by
  unfold mat at h
  split at h
  · cases h; rfl
  · cases h
theorem mat_nil (t : Ty) (x : t.den) : mat t [] x = none := rfl
theorem mat_cons_beq (t : Ty) (e : Nat × t.den × Int) (l : MEnts t) (x : t.den) : mat t (e :: l) x = if t.beq x e.2.1 then some e.2.2 else mat t l x := by
  unfold mat
  rw [mhas_cons, mval_cons]
  cases t.beq x e.2.1 <;> simp
theorem mat_cons_same {t : Ty} (ht : t.ints = true) (b : Nat) (x : t.den) (v : Int) (l : MEnts t) : mat t ((b, x, v) :: l) x = some v := by
  rw [mat_cons_beq, beq_self ht]; rfl
theorem mat_cons_ne {t : Ty} (ht : t.ints = true) (b : Nat) {x y : t.den} (v : Int) (l : MEnts t) (h : y ≠ x) : mat t ((b, x, v) :: l) y = mat t l y := by
  rw [mat_cons_beq]
  rw [beq_ne ht h]; rfl
theorem mat_none {t : Ty} {l : MEnts t} {x : t.den} (h : mhas t l x = false) : mat t l x = none := by unfold mat; rw [h]; rfl

theorem mat_putL_same {t : Ty} (ht : t.ints = true) (x : t.den) (v : Int) : ∀ (l : MEnts t), mhas t l x = true → mat t (mputL t x v l) x = some v
  | [], h => by cases h
  | e :: l, h => by
    unfold mputL
    by_cases hb : t.beq x e.2.1 = true
    · rw [if_pos hb]; exact mat_cons_same ht _ x v l
    · rw [if_neg hb]
      rw [mhas_cons] at h
      have hb' : t.beq x e.2.1 = false := by simpa using hb
      rw [hb', Bool.false_or] at h
      rw [mat_cons_beq, hb']
      exact mat_putL_same ht x v l h
theorem mat_putL_ne {t : Ty} (ht : t.ints = true) (x : t.den) (v : Int) {y : t.den} (h : y ≠ x) : ∀ (l : MEnts t), mat t (mputL t x v l) y = mat t l y
  | [] => rfl
  | e :: l => by
    unfold mputL
    by_cases hb : t.beq x e.2.1 = true
    · rw [if_pos hb]
      have hx := (beq_eq t _ _ ht).1 hb
      rw [mat_cons_ne ht _ _ _ h, mat_cons_beq, beq_ne ht (by rw [← hx]; exact h)]; rfl
    · rw [if_neg hb, mat_cons_beq, mat_cons_beq, mat_putL_ne ht x v h l]
theorem mat_append (t : Ty) (l l' : MEnts t) (x : t.den) : mat t (l ++ l') x = (mat t l x).or (mat t l' x) := by
  induction l with
  | nil => rfl
  | cons e l ih =>
    rw [List.cons_append, mat_cons_beq, mat_cons_beq, ih]
    cases t.beq x e.2.1 <;> rfl

theorem mat_put_same {t : Ty} (ht : t.ints = true) (l : MEnts t) (clk : Nat) (x : t.den) (v : Int) : mat t (mput t l clk x v) x = some v := by
  unfold mput
  cases h : mhas t l x with
  | true => exact mat_putL_same ht x v l h
  | false =>
    simp only [Bool.false_eq_true, if_false]
    rw [mat_append, mat_none h, mat_cons_same ht]; rfl
theorem mat_put_ne {t : Ty} (ht : t.ints = true) (l : MEnts t) (clk : Nat) {x y : t.den} (v : Int) (h : y ≠ x) : mat t (mput t l clk x v) y = mat t l y := by
  unfold mput
  cases hx : mhas t l x with
  | true => exact mat_putL_ne ht x v h l
  | false =>
    simp only [Bool.false_eq_true, if_false]
    rw [mat_append, mat_cons_ne ht _ _ _ h, mat_nil]
    cases mat t l y <;> rfl

/-- Keys and times of birth are apart; all were born before now. -/
structure MOk (t : Ty) (l : MEnts t) (clk : Nat) : Prop where
  keys : (l.map (·.2.1)).Nodup
  births : (l.map (·.1)).Nodup
  lt : ∀ e ∈ l, e.1 < clk

theorem MOk.nil (t : Ty) : MOk t [] 0 := ⟨List.nodup_nil, List.nodup_nil, fun _ h => by cases h⟩

theorem mputL_keys {t : Ty} (ht : t.ints = true) (x : t.den) (v : Int) : ∀ (l : MEnts t), (mputL t x v l).map (·.2.1) = l.map (·.2.1)
  | [] => rfl
  | e :: l => by
    unfold mputL
    by_cases hb : t.beq x e.2.1 = true
    · rw [if_pos hb]; have := (beq_eq t _ _ ht).1 hb; simp [this]
    · rw [if_neg hb]; simp [mputL_keys ht x v l]
theorem mputL_births {t : Ty} (x : t.den) (v : Int) : ∀ (l : MEnts t), (mputL t x v l).map (·.1) = l.map (·.1)
  | [] => rfl
  | e :: l => by
    unfold mputL
    by_cases hb : t.beq x e.2.1 = true
    · rw [if_pos hb]; simp
    · rw [if_neg hb]; simp [mputL_births x v l]
theorem mem_births {t : Ty} {l l' : MEnts t} (h : l.map (·.1) = l'.map (·.1)) {e : Nat × t.den × Int} (he : e ∈ l) : ∃ e' ∈ l', e'.1 = e.1 := by
  have : e.1 ∈ l'.map (·.1) := by rw [← h]; exact List.mem_map_of_mem he
  simpa using this

theorem MOk.put {t : Ty} (ht : t.ints = true) {l : MEnts t} {clk : Nat} (h : MOk t l clk) (x : t.den) (v : Int) : MOk t (mput t l clk x v) (mclk t l clk x) := by
  unfold mput mclk
  cases hx : mhas t l x with
  | true =>
    simp only [if_true]
    exact ⟨by rw [mputL_keys ht]; exact h.keys, by rw [mputL_births]; exact h.births, fun e he => by
      obtain ⟨e', h1, h2⟩ := mem_births (mputL_births x v l) he
      rw [← h2]; exact h.lt e' h1⟩
  | false =>
    simp only [Bool.false_eq_true, if_false]
    refine ⟨?_, ?_, fun e he => ?_⟩
    · rw [List.map_append, List.nodup_append]
      refine ⟨h.keys, by simp, fun a ha b hb => ?_⟩
      simp only [List.map_cons, List.map_nil, List.mem_singleton] at hb
      subst hb
      rintro rfl
      simp only [List.mem_map] at ha
      have := (mhas_iff ht l a).2 ha
      rw [hx] at this; cases this
    · rw [List.map_append, List.nodup_append]
      refine ⟨h.births, by simp, fun a ha b hb => ?_⟩
      simp only [List.map_cons, List.map_nil, List.mem_singleton] at hb
      subst hb
      simp only [List.mem_map] at ha
      obtain ⟨e, he, rfl⟩ := ha
      have := h.lt e he
      omega
    · rcases List.mem_append.1 he with he | he
      · have := h.lt e he; omega
      · simp only [List.mem_singleton] at he; subst he; exact Nat.lt_succ_self _

theorem mdel_sub {t : Ty} (x : t.den) : ∀ (l : MEnts t), (mdel t x l).Sublist l
  | [] => .slnil
  | e :: l => by
    unfold mdel
    split
    · exact List.sublist_cons_self e l
    · exact (mdel_sub x l).cons_cons e
theorem MOk.del {t : Ty} {l : MEnts t} {clk : Nat} (h : MOk t l clk) (x : t.den) : MOk t (mdel t x l) clk :=
  ⟨h.keys.sublist ((mdel_sub x l).map _), h.births.sublist ((mdel_sub x l).map _), fun e he => h.lt e ((mdel_sub x l).subset he)⟩
theorem MOk.later {t : Ty} {l : MEnts t} {clk clk' : Nat} (h : MOk t l clk) (hc : clk ≤ clk') : MOk t l clk' := ⟨h.keys, h.births, fun e he => Nat.lt_of_lt_of_le (h.lt e he) hc⟩

theorem mat_del_ne {t : Ty} (ht : t.ints = true) {x y : t.den} (h : y ≠ x) : ∀ (l : MEnts t), mat t (mdel t x l) y = mat t l y
  | [] => rfl
  | e :: l => by
    unfold mdel
    by_cases hb : t.beq x e.2.1 = true
    · rw [if_pos hb]
      have hx := (beq_eq t _ _ ht).1 hb
      rw [mat_cons_beq, beq_ne ht (by rw [← hx]; exact h)]; rfl
    · rw [if_neg hb, mat_cons_beq, mat_cons_beq, mat_del_ne ht h l]
theorem mat_del_same {t : Ty} (ht : t.ints = true) (x : t.den) : ∀ (l : MEnts t), (l.map (·.2.1)).Nodup → mat t (mdel t x l) x = none
  | [], _ => rfl
  | e :: l, h => by
    simp only [List.map_cons, List.nodup_cons] at h
    unfold mdel
    by_cases hb : t.beq x e.2.1 = true
    · rw [if_pos hb]
      have hx := (beq_eq t _ _ ht).1 hb
      apply mat_none
      rw [← Bool.not_eq_true, mhas_iff ht]
      rintro ⟨e', h1, h2⟩
      exact h.1 (by rw [← hx, ← h2]; exact List.mem_map_of_mem h1)
    · rw [if_neg hb, mat_cons_beq, if_neg hb]
      exact mat_del_same ht x l h.2

/-- Entries are what is found. -/
theorem mat_mem {t : Ty} (ht : t.ints = true) : ∀ {l : MEnts t}, (l.map (·.2.1)).Nodup → ∀ {x : t.den} {v : Int}, mat t l x = some v ↔ ∃ b, (b, x, v) ∈ l
  | [], _, x, v => by simp [mat_nil]
  | (b0, y, u) :: l, h, x, v => by
    simp only [List.map_cons, List.nodup_cons] at h
    rw [mat_cons_beq]
    by_cases hb : t.beq x y = true
    · rw [if_pos hb]
      have hx := (beq_eq t _ _ ht).1 hb
      subst hx
      constructor
      · intro e; cases e; exact ⟨b0, List.mem_cons_self ..⟩
      · rintro ⟨b, hm⟩
        rcases List.mem_cons.1 hm with e | hm
        · cases e; rfl
        · exact absurd (List.mem_map_of_mem (f := fun e : Nat × t.den × Int => e.2.1) hm) h.1
    · rw [if_neg hb, mat_mem ht h.2]
      constructor
      · rintro ⟨b, hm⟩; exact ⟨b, List.mem_cons_of_mem _ hm⟩
      · rintro ⟨b, hm⟩
        rcases List.mem_cons.1 hm with e | hm
        · cases e; exact absurd (beq_self ht y) hb
        · exact ⟨b, hm⟩
theorem MOk.mat {t : Ty} (ht : t.ints = true) {l : MEnts t} {clk : Nat} (h : MOk t l clk) {e : Nat × t.den × Int} (he : e ∈ l) : Abs.mat t l e.2.1 = some e.2.2 := (mat_mem ht h.keys).2 ⟨e.1, he⟩

/-! ### keys that are numbers, or two of them -/
section
variable {k : IntKind} (l : List (Nat × Int × Int)) (clk : Nat) (x v : Int)
theorem matI_has : mhas (.int k) l x = (mat (.int k) l x).isSome := mat_has
theorem matI_val {l : List (Nat × Int × Int)} {x v : Int} (h : mat (.int k) l x = some v) : mval (.int k) l x = v := mat_val h
theorem matI_nil : mat (.int k) [] x = none := rfl
theorem matI_none {l : List (Nat × Int × Int)} {x : Int} (h : mhas (.int k) l x = false) : mat (.int k) l x = none := mat_none h
theorem matI_put_same : mat (.int k) (mput (.int k) l clk x v) x = some v := mat_put_same (t := .int k) rfl l clk x v
theorem matI_put_ne {x y : Int} (h : y ≠ x) : mat (.int k) (mput (.int k) l clk x v) y = mat (.int k) l y := mat_put_ne (t := .int k) rfl l clk v h
theorem matI_del_ne {x y : Int} (h : y ≠ x) : mat (.int k) (mdel (.int k) x l) y = mat (.int k) l y := mat_del_ne (t := .int k) rfl h l
theorem matI_del_same {l : List (Nat × Int × Int)} {clk : Nat} (h : MOk (.int k) l clk) : mat (.int k) (mdel (.int k) x l) x = none := mat_del_same (t := .int k) rfl x l h.keys
theorem MOk.putI {l : List (Nat × Int × Int)} {clk : Nat} (h : MOk (.int k) l clk) : MOk (.int k) (mput (.int k) l clk x v) (mclk (.int k) l clk x) := h.put rfl x v
theorem MOk.delI {l : List (Nat × Int × Int)} {clk : Nat} (h : MOk (.int k) l clk) : MOk (.int k) (mdel (.int k) x l) clk := h.del x
theorem matI_mem {l : List (Nat × Int × Int)} {clk : Nat} (h : MOk (.int k) l clk) {x v : Int} : mat (.int k) l x = some v ↔ ∃ b, (b, x, v) ∈ l := mat_mem (t := .int k) rfl h.keys
end
section
variable {k k' : IntKind} (l : List (Nat × (Int × Int) × Int)) (clk : Nat) (x : Int × Int) (v : Int)
theorem matP_has : mhas (.pair (.int k) (.int k')) l x = (mat (.pair (.int k) (.int k')) l x).isSome := mat_has
theorem matP_val {l : List (Nat × (Int × Int) × Int)} {x : Int × Int} {v : Int} (h : mat (.pair (.int k) (.int k')) l x = some v) : mval (.pair (.int k) (.int k')) l x = v := mat_val h
theorem matP_nil : mat (.pair (.int k) (.int k')) [] x = none := rfl
theorem matP_none {l : List (Nat × (Int × Int) × Int)} {x : Int × Int} (h : mhas (.pair (.int k) (.int k')) l x = false) : mat (.pair (.int k) (.int k')) l x = none := mat_none h
theorem matP_put_same : mat (.pair (.int k) (.int k')) (mput (.pair (.int k) (.int k')) l clk x v) x = some v := mat_put_same (t := .pair (.int k) (.int k')) rfl l clk x v
theorem matP_put_ne {x y : Int × Int} (h : y ≠ x) : mat (.pair (.int k) (.int k')) (mput (.pair (.int k) (.int k')) l clk x v) y = mat (.pair (.int k) (.int k')) l y := mat_put_ne (t := .pair (.int k) (.int k')) rfl l clk v h
theorem matP_del_ne {x y : Int × Int} (h : y ≠ x) : mat (.pair (.int k) (.int k')) (mdel (.pair (.int k) (.int k')) x l) y = mat (.pair (.int k) (.int k')) l y := mat_del_ne (t := .pair (.int k) (.int k')) rfl h l
theorem matP_del_same {l : List (Nat × (Int × Int) × Int)} {clk : Nat} (h : MOk (.pair (.int k) (.int k')) l clk) : mat (.pair (.int k) (.int k')) (mdel (.pair (.int k) (.int k')) x l) x = none := mat_del_same (t := .pair (.int k) (.int k')) rfl x l h.keys
theorem MOk.putP {l : List (Nat × (Int × Int) × Int)} {clk : Nat} (h : MOk (.pair (.int k) (.int k')) l clk) : MOk (.pair (.int k) (.int k')) (mput (.pair (.int k) (.int k')) l clk x v) (mclk (.pair (.int k) (.int k')) l clk x) := h.put rfl x v
theorem MOk.delP {l : List (Nat × (Int × Int) × Int)} {clk : Nat} (h : MOk (.pair (.int k) (.int k')) l clk) : MOk (.pair (.int k) (.int k')) (mdel (.pair (.int k) (.int k')) x l) clk := h.del x
theorem matP_mem {l : List (Nat × (Int × Int) × Int)} {clk : Nat} (h : MOk (.pair (.int k) (.int k')) l clk) {x : Int × Int} {v : Int} : mat (.pair (.int k) (.int k')) l x = some v ↔ ∃ b, (b, x, v) ∈ l := mat_mem (t := .pair (.int k) (.int k')) rfl h.keys
end

/-! ### walks -/
theorem mem_mleft {t : Ty} {l : MEnts t} {seen : List Nat} {e : Nat × t.den × Int} : e ∈ mleft t l seen ↔ e ∈ l ∧ e.1 ∉ seen := by
  unfold mleft; simp
theorem mleft_nil {t : Ty} {l : MEnts t} {seen : List Nat} (h : mleft t l seen = []) {e : Nat × t.den × Int} (he : e ∈ l) : e.1 ∈ seen := by
  rcases Classical.em (e.1 ∈ seen) with h1 | h1
  · exact h1
  · have := mem_mleft.2 ⟨he, h1⟩
    rw [h] at this; cases this
/-- One less is left. -/
theorem mleft_less {t : Ty} {l : MEnts t} {seen : List Nat} {e : Nat × t.den × Int} (he : e ∈ mleft t l seen) : (mleft t l (seen ++ [e.1])).length < (mleft t l seen).length := by
  have h1 : mleft t l (seen ++ [e.1]) = (mleft t l seen).filter (fun x => !decide (x.1 = e.1)) := by
    unfold mleft
    rw [List.filter_filter]
    apply List.filter_congr
    intro x _
    simp [List.contains_eq_mem, List.mem_append]
    by_cases h : x.1 ∈ seen <;> by_cases h2 : x.1 = e.1 <;> simp [h, h2]
  rw [h1]
  have : ∀ (l : MEnts t), e ∈ l → (l.filter (fun x => !decide (x.1 = e.1))).length < l.length := by
    intro l
    induction l with
    | nil => intro h; cases h
    | cons a l ih =>
      intro h
      rcases List.mem_cons.1 h with rfl | h
      · rw [List.filter_cons_of_neg (by simp)]
        have := List.length_filter_le (fun x : Nat × t.den × Int => !decide (x.1 = e.1)) l
        simp only [List.length_cons]; omega
      · have := ih h
        rw [List.filter_cons]
        split <;> simp only [List.length_cons] <;> omega
  exact this _ he
/-- A birth says which entry. -/
theorem MOk.birth {t : Ty} {l : MEnts t} {clk : Nat} (h : MOk t l clk) {e e' : Nat × t.den × Int} (he : e ∈ l) (he' : e' ∈ l) (hb : e.1 = e'.1) : e = e' := by
  have key : ∀ (l : MEnts t), (l.map (·.1)).Nodup → e ∈ l → e' ∈ l → e = e' := by
    intro l hn he he'
    induction l with
    | nil => cases he
    | cons a l ih =>
      simp only [List.map_cons, List.nodup_cons] at hn
      rcases List.mem_cons.1 he with h1 | h1
      · rcases List.mem_cons.1 he' with h2 | h2
        · rw [h1, h2]
        · exact absurd (by rw [← h1, hb]; exact List.mem_map_of_mem (f := fun e : Nat × t.den × Int => e.1) h2) hn.1
      · rcases List.mem_cons.1 he' with h2 | h2
        · exact absurd (by rw [← h2, ← hb]; exact List.mem_map_of_mem (f := fun e : Nat × t.den × Int => e.1) h1) hn.1
        · exact ih hn.2 h1 h2
  exact key l h.births he he'
end Go.Abs
end

section
/- The ship's functions keep their contracts: second part: stows. -/
open Go.Proofs
set_option maxRecDepth 100000
set_option linter.unusedVariables false
namespace Go.Abs.Ship

theorem getD_at {α : Type} {l : List α} {i : Nat} {d : α} (h : i < l.length) : l.getD i d = l[i] := by
  rw [List.getD_eq_getElem?_getD, List.getElem?_eq_getElem h]; rfl

/-! ### what is right -/
theorem fine_spec {bs : List (Int × Int)} {st fl : Int} (h : checkLoad bs st fl = 0) : bs.length ≤ 9 ∧ 1 ≤ st ∧ st ≤ 5 ∧ 1 ≤ fl ∧ fl ≤ 1000 ∧ anyBad bs = false := by
  unfold checkLoad at h
  split at h
  · cases h
  · split at h
    · cases h
    · rename_i h1 h2
      refine ⟨by omega, by omega, by omega, by omega, by omega, ?_⟩
      cases hb : anyBad bs with
      | true => exact absurd (.inr (.inr hb)) h2
      | false => rfl
theorem box_spec {bs : List (Int × Int)} (h : anyBad bs = false) {i : Nat} (hi : i < bs.length) : 1 ≤ bs[i].1 ∧ bs[i].1 ≤ 20 ∧ 1 ≤ bs[i].2 ∧ bs[i].2 ≤ 100 := by
  have : badBox bs[i] = false := by
    rw [← Bool.not_eq_true]
    intro hb
    have : anyBad bs = true := List.any_eq_true.2 ⟨_, List.getElem_mem hi, hb⟩
    rw [h] at this; cases this
  simp only [badBox, decide_eq_false_iff_not] at this
  omega
theorem wt_spec {bs : List (Int × Int)} (h : anyBad bs = false) (i : Nat) : 0 ≤ wt bs (i : Int) ∧ wt bs (i : Int) ≤ 100 := by
  rcases Nat.lt_or_ge i bs.length with hi | hi
  · rw [wt_eq hi]; have := box_spec h hi; omega
  · unfold wt
    rw [Int.toNat_natCast, List.getD_eq_getElem?_getD, List.getElem?_eq_none hi]
    decide

/-! ### smooth stows -/
theorem smoothAt_iff {bs : List (Int × Int)} {s : List Int} {i : Nat} : smoothAt bs s i = true ↔ ∀ k, k < i → s.getD k 0 = s.getD i 0 → pt bs i ≤ pt bs k := by
  simp only [smoothAt, List.all_eq_true, List.mem_range, decide_eq_true_eq]
theorem smoothB_iff {bs : List (Int × Int)} {s : List Int} : smoothB bs s = true ↔ ∀ i, i < s.length → ∀ k, k < i → s.getD k 0 = s.getD i 0 → pt bs i ≤ pt bs k := by
  unfold smoothB
  simp only [List.all_eq_true, List.mem_range, smoothAt_iff]
theorem not_smooth {bs : List (Int × Int)} {s : List Int} {i k : Nat} (hi : i < s.length) (hk : k < i) (h : s.getD k 0 = s.getD i 0) (h2 : ¬ pt bs i ≤ pt bs k) : smoothB bs s = false := by
  rw [← Bool.not_eq_true, smoothB_iff]
  intro hh
  exact h2 (hh i hi k hk h)

theorem k45 (hG : Good Try.prog (envOf [])) : v45.Kept Try.prog 45 := by
  rintro ⟨bs, s, ⟨⟩⟩ hpre k hk
  change List (Int × Int) at bs
  change List Int at s
  refine aspec hmix hG Try.func45 tx45 (Eq.mpr (eq45 bs s k) ?_)
  replace hk : k (.bool (smoothB bs s)) [] := hk
  unfold vc45
  obtain ⟨hl, hb⟩ := hpre
  have hl : s.length ≤ bs.length := hl
  have hb : bs.length ≤ 1152921504606846976 := hb
  refine Loop.upto (fun i => (bs, s, (i : Int), ())) (fun i => ∀ i', i' < i → ∀ k, k < i' → s.getD k 0 = s.getD i' 0 → pt bs i' ≤ pt bs k) s.length rfl (fun i' h => absurd h (Nat.not_lt_zero _)) ?_ ?_
  · intro i K hi hp hK
    dsimp only
    rw [br_decide]
    refine ⟨fun _ => ?_, fun h => absurd hi (by omega)⟩
    try simp only [Int.toNat_natCast]
    refine Loop.upto (fun j => (bs, s, (i : Int), (j : Int), ())) (fun j => ∀ k, k < j → s.getD k 0 = s.getD i 0 → pt bs i ≤ pt bs k) i rfl (fun k h => absurd h (Nat.not_lt_zero _)) ?_ ?_
    · intro j K_j hj hp_j hK_j
      dsimp only
      rw [br_decide]
      refine ⟨fun _ => ?_, fun h => absurd hj (by omega)⟩
      try simp only [Int.toNat_natCast]
      refine ⟨⟨by omega, by omega⟩, ⟨by omega, by omega⟩, ?_⟩
      rw [br_bt]
      refine ⟨fun h => ⟨⟨by omega, by omega⟩, ⟨by omega, by omega⟩, ?_⟩, fun h => ⟨fits64 (by omega) (by omega), hK_j (fun k hk' he => ?_)⟩⟩
      · rw [br_decide]
        have hs : s[j] = s[i] := by simpa using h
        refine ⟨fun h2 => ?_, fun h2 => ⟨fits64 (by omega) (by omega), hK_j (fun k hk' he => ?_)⟩⟩
        · have : smoothB bs s = false := not_smooth hi hj (by rw [getD_at (by omega), getD_at hi, hs]) (by rw [pt_eq (by omega), pt_eq (by omega)]; omega)
          rwa [this] at hk
        · rcases Nat.lt_or_ge k j with h3 | h3
          · exact hp_j k h3 he
          · obtain rfl : k = j := by omega
            rw [pt_eq (by omega), pt_eq (by omega)]; omega
      · rcases Nat.lt_or_ge k j with h3 | h3
        · exact hp_j k h3 he
        · obtain rfl : k = j := by omega
          rw [getD_at (by omega), getD_at hi] at he
          simp [he] at h
    · intro K_j hp_j
      dsimp only
      rw [br_decide]
      refine ⟨fun h => absurd h (by omega), fun _ => ?_⟩
      refine ⟨fits64 (by omega) (by omega), hK (fun i' hi' => ?_)⟩
      rcases Nat.lt_or_ge i' i with h3 | h3
      · exact hp i' h3
      · obtain rfl : i' = i := by omega
        exact hp_j
  · intro K hp
    dsimp only
    rw [br_decide]
    refine ⟨fun h => absurd h (by omega), fun _ => ?_⟩
    have : smoothB bs s = true := smoothB_iff.2 hp
    rwa [this] at hk

/-! ### the other boxes -/
def othersTo (bs : List (Int × Int)) (l : List Int) (n : Nat) : List (Int × Int) := ((List.range n).filter (fun i : Nat => !hasI l (i : Int))).map (fun i => bs.getD i (0, 0))
theorem othersTo_succ {bs : List (Int × Int)} {l : List Int} {i : Nat} (h : i < bs.length) : othersTo bs l (i + 1) = othersTo bs l i ++ (if hasI l (i : Int) then [] else [bs[i]]) := by
  unfold othersTo
  rw [List.range_succ, List.filter_append, List.map_append]
  congr 1
  cases hh : hasI l (i : Int) <;> simp [hh, h]
theorem othersTo_len (bs : List (Int × Int)) (l : List Int) (i : Nat) : (othersTo bs l i).length ≤ i := by
  unfold othersTo
  rw [List.length_map]
  exact Nat.le_trans (List.length_filter_le _ _) (by simp)
theorem hasI_take {l : List Int} {x : Int} {j : Nat} (h : j < l.length) : hasI (l.take (j + 1)) x = (hasI (l.take j) x || l[j] == x) := by
  unfold hasI
  rw [List.take_succ_eq_append_getElem h, List.any_append]
  congr 1
  simp only [List.any_cons, List.any_nil, Bool.or_false, isI]
  by_cases e : l[j] = x
  · simp [e]
  · simp [e, Ne.symm e]

theorem k48 (hG : Good Try.prog (envOf [])) : v48.Kept Try.prog 48 := by
  rintro ⟨bs, l, ⟨⟩⟩ hpre k hk
  change List (Int × Int) at bs
  change List Int at l
  refine aspec hmix hG Try.func48 tx48 (Eq.mpr (eq48 bs l k) ?_)
  replace hk : k (.reg 0 false) [.sl (.pair (.int .i64) (.int .i64)) (others bs l)] := hk
  unfold vc48
  obtain ⟨h1, h2⟩ := hpre
  have h1 : bs.length ≤ 1000 := h1
  have h2 : l.length ≤ 1152921504606846976 := h2
  refine Loop.upto (fun i => (bs, l, (i : Int), othersTo bs l i, ())) (fun i => True) bs.length rfl trivial ?_ ?_
  · intro i K hi hp hK
    dsimp only
    rw [br_decide]
    refine ⟨fun _ => ?_, fun h => absurd hi (by omega)⟩
    try simp only [Int.toNat_natCast]
    refine Loop.upto (fun j => (bs, l, (i : Int), hasI (l.take j) (i : Int), (j : Int), othersTo bs l i, ())) (fun j => True) l.length rfl trivial ?_ ?_
    · intro j K_j hj hp_j hK_j
      dsimp only
      rw [br_decide]
      refine ⟨fun _ => ?_, fun h => absurd hj (by omega)⟩
      try simp only [Int.toNat_natCast]
      have hK := hK_j trivial
      rw [hasI_take hj] at hK
      rw [br_bf]
      refine ⟨fun h => ⟨⟨by omega, by omega⟩, fits64 (by omega) (by omega), ?_⟩, fun h => ⟨fits64 (by omega) (by omega), ?_⟩⟩
      · rw [h, Bool.false_or] at hK; exact hK
      · rw [h, Bool.true_or] at hK; exact hK
    · intro K_j hp_j
      dsimp only
      rw [br_decide]
      refine ⟨fun h => absurd h (by omega), fun _ => ?_⟩
      have hK0 := hK trivial
      have hlen := othersTo_len bs l i
      rw [othersTo_succ hi] at hK0
      rw [List.take_length]
      rw [br_not]
      refine ⟨fun h => ⟨⟨by omega, by omega⟩, by simp [big]; omega, fits64 (by omega) (by omega), ?_⟩, fun h => ⟨fits64 (by omega) (by omega), ?_⟩⟩
      · rw [if_neg (by simp [h])] at hK0; exact hK0
      · rw [if_pos h, List.append_nil] at hK0; exact hK0
  · intro K hp
    dsimp only
    rw [br_decide]
    refine ⟨fun h => absurd h (by omega), fun _ => ?_⟩
    exact hk

/-! ### a smooth stow, by a map of the topmost boxes -/
structure Tops (s : List Int) (i : Nat) (l : List (Nat × Int × Int)) (clk : Nat) : Prop where
  ok : MOk (.int .i64) l clk
  some : ∀ (x v : Int), mat (.int .i64) l x = Option.some v → 0 ≤ v ∧ v < (i : Int) ∧ s.getD v.toNat 0 = x ∧ ∀ k, k < i → s.getD k 0 = x → (k : Int) ≤ v
  none : ∀ (x : Int), mat (.int .i64) l x = Option.none → ∀ k, k < i → s.getD k 0 ≠ x

theorem Tops.next {s : List Int} {i : Nat} {l : List (Nat × Int × Int)} {clk : Nat} (h : Tops s i l clk) (hi : i < s.length) : Tops s (i + 1) (mput (.int .i64) l clk s[i] (i : Int)) (mclk (.int .i64) l clk s[i]) := by
  refine ⟨h.ok.putI _ _, fun x v hv => ?_, fun x hx k hk => ?_⟩
  · by_cases e : x = s[i]
    · subst e
      rw [matI_put_same] at hv
      cases hv
      refine ⟨by omega, by omega, by rw [Int.toNat_natCast, getD_at hi], fun k hk _ => by omega⟩
    · rw [matI_put_ne _ _ _ e] at hv
      obtain ⟨h1, h2, h3, h4⟩ := h.some x v hv
      refine ⟨h1, by omega, h3, fun k hk he => ?_⟩
      rcases Nat.lt_or_ge k i with h5 | h5
      · exact h4 k h5 he
      · obtain rfl : k = i := by omega
        rw [getD_at hi] at he
        exact absurd he.symm e
  · by_cases e : x = s[i]
    · subst e
      rw [matI_put_same] at hx
      cases hx
    · rw [matI_put_ne _ _ _ e] at hx
      rcases Nat.lt_or_ge k i with h5 | h5
      · exact h.none x hx k h5
      · obtain rfl : k = i := by omega
        rw [getD_at hi]
        exact fun he => e he.symm

theorem natI {v : Int} (h : 0 ≤ v) : ((v.toNat : Nat) : Int) = v := by omega

theorem k76 (hG : Good Try.prog (envOf [(83, mkC [v83])])) : v76.Kept Try.prog 76 := by
  rintro ⟨bs, st, fl, s, ⟨⟩⟩ hpre k hk
  change List (Int × Int) at bs
  change Int at st fl
  change List Int at s
  refine aspec hmix hG Try.func76 tx76 (Eq.mpr (eq76 bs st fl s k) ?_)
  replace hk : k (.bool (smoothB bs s)) [] := hk
  unfold vc76
  obtain ⟨hl, hb⟩ := hpre
  have hl : s.length ≤ bs.length := hl
  have hb : bs.length ≤ 1152921504606846976 := hb
  refine Loop.intro (fun x => ∃ (i : Nat) (l : List (Nat × Int × Int)) (clk : Nat), x = (bs, st, fl, s, ((s.length : Nat) : Int), (i : Int), l, clk, ()) ∧ i ≤ s.length ∧ Tops s i l clk ∧ ∀ i', i' < i → ∀ k, k < i' → s.getD k 0 = s.getD i' 0 → pt bs i' ≤ pt bs k) (fun x => (s.length : Nat) - x.2.2.2.2.2.1.toNat) ?_ ⟨0, [], 0, rfl, by omega, ⟨MOk.nil _, fun x v h => (by cases (show (none : Option Int) = some v from h)), fun x h k hk => absurd hk (Nat.not_lt_zero _)⟩, fun i' h => absurd h (Nat.not_lt_zero _)⟩
  rintro x K ⟨i, l, clk, rfl, hi, hT, hp⟩ hK
  dsimp only
  rw [br_decide]
  refine ⟨fun h => ⟨⟨by omega, by omega⟩, ?_⟩, fun h => ?_⟩
  · have hlt : i < s.length := by omega
    simp only [Int.toNat_natCast]
    have go : (∀ k, k < i → s.getD k 0 = s.getD i 0 → pt bs i ≤ pt bs k) → fitsK .i64 ((i : Int) + 1) ∧ K (bs, st, fl, s, ((s.length : Nat) : Int), (i : Int) + 1, mput (.int .i64) l clk s[i] (i : Int), mclk (.int .i64) l clk s[i], ()) := by
      intro hh
      refine ⟨fits64 (by omega) (by omega), hK _ ⟨i + 1, _, _, rfl, hlt, hT.next hlt, fun i' hi' => ?_⟩ ?_⟩
      · rcases Nat.lt_or_ge i' i with h3 | h3
        · exact hp i' h3
        · obtain rfl : i' = i := by omega
          exact hh
      · show s.length - ((i : Int) + 1).toNat < s.length - ((i : Int)).toNat
        omega
    rw [br_bt]
    refine ⟨fun hh => ?_, fun hh => go ?_⟩
    · have hm : (mat (.int .i64) l s[i]).isSome = true := by rw [← matI_has]; exact hh
      obtain ⟨v, hv⟩ := Option.isSome_iff_exists.1 hm
      obtain ⟨h1, h2, h3, h4⟩ := hT.some _ v hv
      have ev : mval (.int .i64) l s[i] = v := matI_val hv
      rw [ev]
      refine ⟨⟨⟨by show (0:Int) ≤ (i : Int); omega, by show (i : Int) < (bs.length : Int); omega⟩, ⟨by show (0:Int) ≤ v; omega, by show v < (bs.length : Int); omega⟩⟩, ?_⟩
      rw [br_not]
      simp only [liesOn, decide_eq_false_iff_not, decide_eq_true_eq]
      refine ⟨fun h5 => ?_, fun h5 => go (fun k hk' he => ?_)⟩
      · have : smoothB bs s = false := not_smooth (k := v.toNat) hlt (by omega) (by rw [h3, getD_at hlt]) (by rw [natI h1]; exact h5)
        rwa [this] at hk
      · rw [getD_at hlt] at he
        have h6 := h4 k hk' he
        have h7 : pt bs v ≤ pt bs (k : Int) := by
          rcases Int.lt_or_eq_of_le h6 with h8 | h8
          · have := hp v.toNat (by omega) k (by omega) (by rw [he, h3])
            rwa [natI h1] at this
          · rw [h8]; exact Int.le_refl _
        omega
    · intro k hk' he
      have hm : mat (.int .i64) l s[i] = none := matI_none hh
      rw [getD_at hlt] at he
      exact absurd he (hT.none _ hm k hk')
  · have : smoothB bs s = true := smoothB_iff.2 (fun i' hi' => hp i' (by omega))
    rwa [this] at hk

/-! ### weights -/
theorem wFrom_snoc (bs : List (Int × Int)) (x k : Int) : ∀ (s : List Int) (i : Nat), wFrom bs i (s ++ [x]) k = wFrom bs i s k + if x = k then wt bs ((i + s.length : Nat) : Int) else 0
  | [], i => by simp [wFrom]
  | y :: s, i => by
    simp only [List.cons_append, wFrom, wFrom_snoc bs x k s (i + 1), List.length_cons]
    rw [show i + 1 + s.length = i + (s.length + 1) by omega]
    omega
theorem wAt_snoc (bs : List (Int × Int)) (s : List Int) (x k : Int) : wAt bs (s ++ [x]) k = wAt bs s k + if x = k then wt bs (s.length : Int) else 0 := by
  unfold wAt
  rw [wFrom_snoc]; simp
theorem weights_len (bs : List (Int × Int)) (s : List Int) (n : Nat) : (weights bs s n).length = n := by simp [weights]
theorem weights_at (bs : List (Int × Int)) (s : List Int) (n i : Nat) (h : i < (weights bs s n).length) : (weights bs s n)[i] = wAt bs s (i : Int) := by simp [weights]
theorem weights_snoc (bs : List (Int × Int)) (s : List Int) (n : Nat) (x : Int) (h0 : 0 ≤ x) (h : x.toNat < (weights bs s n).length) :
    weights bs (s ++ [x]) n = (weights bs s n).set x.toNat ((weights bs s n)[x.toNat] + wt bs (s.length : Int)) := by
  apply List.ext_getElem
  · simp [weights]
  · intro i h1 h2
    have hn : x.toNat < n := by rwa [weights_len] at h
    have e0 := weights_at bs s n x.toNat h
    rw [weights_at, List.getElem_set, wAt_snoc]
    split
    · rename_i e
      subst e
      rw [if_pos (by omega), e0]; rfl
    · rename_i e
      rw [if_neg (by omega), weights_at]; simp
theorem wFrom_spec {bs : List (Int × Int)} (h : anyBad bs = false) (k : Int) : ∀ (s : List Int) (i : Nat), 0 ≤ wFrom bs i s k ∧ wFrom bs i s k ≤ 100 * (s.length : Int)
  | [], i => by simp [wFrom]
  | y :: s, i => by
    have := wFrom_spec h k s (i + 1)
    have h2 := wt_spec h i
    simp only [wFrom, List.length_cons]
    split <;> omega
theorem wAt_spec {bs : List (Int × Int)} (h : anyBad bs = false) (s : List Int) (k : Int) : 0 ≤ wAt bs s k ∧ wAt bs s k ≤ 100 * (s.length : Int) := wFrom_spec h k s 0
theorem weights_zero (bs : List (Int × Int)) (n : Nat) : weights bs [] n = List.replicate n 0 := by
  apply List.ext_getElem
  · simp [weights]
  · intro i h1 h2
    rw [weights_at]; simp [wAt, wFrom]

theorem k52 (hG : Good Try.prog (envOf [])) : v52.Kept Try.prog 52 := by
  rintro ⟨bs, st, fl, s, ⟨⟩⟩ hpre k hk
  change List (Int × Int) at bs
  change Int at st fl
  change List Int at s
  refine aspec hmix hG Try.func52 tx52 (Eq.mpr (eq52 bs st fl s k) ?_)
  replace hk : k (.arrv (.int .i64) (weights bs s 5)) [] := hk
  unfold vc52
  obtain ⟨hf, hl, ha⟩ := hpre
  obtain ⟨f1, f2, f3, f4, f5, f6⟩ := fine_spec (h := hf)
  have f1 : bs.length ≤ 9 := f1
  have f6 : anyBad bs = false := f6
  have hl : s.length ≤ bs.length := hl
  have ha : ∀ j ∈ s, (0 : Int) ≤ j ∧ j < 5 := ha
  refine ⟨by simp, ?_⟩
  refine Loop.upto (fun i => (bs, st, fl, s, ((s.length : Nat) : Int), (i : Int), List.replicate 5 0, weights bs (s.take i) 5, ())) (fun i => True) s.length ?_ trivial ?_ ?_
  · show (bs, st, fl, s, ((s.length : Nat) : Int), ((0 : Nat) : Int), List.replicate 5 0, weights bs (s.take 0) 5, ()) = _
    rw [List.take_zero, weights_zero]; rfl
  · intro i K hi hp hK
    dsimp only
    rw [br_decide]
    refine ⟨fun _ => ?_, fun h => absurd hi (by omega)⟩
    try simp only [Int.toNat_natCast]
    have hx := ha _ (List.getElem_mem hi)
    have hw : s[i].toNat < (weights bs (s.take i) 5).length := by rw [weights_len]; omega
    have hK := hK trivial
    rw [List.take_succ_eq_append_getElem hi, weights_snoc bs _ 5 _ hx.1 hw, List.length_take, Nat.min_eq_left (by omega), wt_eq (by omega)] at hK
    have hb := box_spec f6 (i := i) (by omega)
    have h0 := wAt_spec f6 (s.take i) ((s[i].toNat : Nat) : Int)
    rw [List.length_take, Nat.min_eq_left (by omega)] at h0
    refine ⟨⟨by omega, by omega⟩, ⟨hx.1, by omega⟩, hw, ⟨by omega, by omega⟩, ?_, ⟨hx.1, by omega⟩, hw, fits64 (by omega) (by omega), hK⟩
    rw [weights_at]
    exact fits64 (by omega) (by omega)
  · intro K hp
    dsimp only
    rw [br_decide]
    refine ⟨fun h => absurd h (by omega), fun _ => ?_⟩
    rw [List.take_length]
    exact ⟨by rw [weights_len]; rfl, by rw [weights_len]; rfl, by rw [weights_len]; rfl, by simp, by rw [weights_len]; rfl, hk⟩

theorem k57 (hG : Good Try.prog (envOf [])) : v57.Kept Try.prog 57 := by
  rintro ⟨bs, s, n, ⟨⟩⟩ hpre k hk
  change List (Int × Int) at bs
  change List Int at s
  change Int at n
  refine aspec hmix hG Try.func57 tx57 (Eq.mpr (eq57 bs s n k) ?_)
  replace hk : k (.reg 0 false) [.sl (.int .i64) (wtsI bs s n)] := hk
  unfold vc57
  obtain ⟨hl, hb, f6', h0, h1, ha⟩ := hpre
  have f6 : anyBad bs = false := f6'
  have hl : s.length ≤ bs.length := hl
  have hb : bs.length ≤ 16 := hb
  have h0 : 0 ≤ n := h0
  have h1 : n ≤ 100 := h1
  have ha : ∀ j ∈ s, (0 : Int) ≤ j ∧ j < n := ha
  obtain ⟨n, rfl⟩ := Int.eq_ofNat_of_zero_le h0
  replace hk : k (.reg 0 false) [.sl (.int .i64) (weights bs s n)] := hk
  refine ⟨⟨h0, rfl, by simp [big]; omega⟩, ?_⟩
  refine Loop.upto (fun i => (bs, s, (i : Int), weights bs (s.take i) n, ())) (fun i => True) s.length ?_ trivial ?_ ?_
  · show (bs, s, ((0 : Nat) : Int), weights bs (s.take 0) n, ()) = _
    rw [List.take_zero, weights_zero]; rfl
  · intro i K hi hp hK
    dsimp only
    rw [br_decide]
    refine ⟨fun _ => ?_, fun h => absurd hi (by omega)⟩
    try simp only [Int.toNat_natCast]
    have hx := ha _ (List.getElem_mem hi)
    have hw : s[i].toNat < (weights bs (s.take i) n).length := by rw [weights_len]; omega
    have hK := hK trivial
    rw [List.take_succ_eq_append_getElem hi, weights_snoc bs _ n _ hx.1 hw, List.length_take, Nat.min_eq_left (by omega), wt_eq (by omega)] at hK
    have hb2 := box_spec f6 (i := i) (by omega)
    have h0 := wAt_spec f6 (s.take i) ((s[i].toNat : Nat) : Int)
    rw [List.length_take, Nat.min_eq_left (by omega)] at h0
    refine ⟨⟨by omega, by omega⟩, ⟨hx.1, hw⟩, hw, ⟨by omega, by omega⟩, ?_, ⟨hx.1, hw⟩, hw, fits64 (by omega) (by omega), hK⟩
    rw [weights_at]
    exact fits64 (by omega) (by omega)
  · intro K hp
    dsimp only
    rw [br_decide]
    refine ⟨fun h => absurd h (by omega), fun _ => ?_⟩
    rw [List.take_length]
    exact hk

theorem goodB_eq (bs : List (Int × Int)) (st fl : Int) (s : List Int) : goodB bs st fl s = ((weights bs s st.toNat).all (fun w => decide (w ≤ fl)) && smoothB bs s) := rfl

theorem k56 (hG : Good Try.prog (envOf [(57, mkC [v57]), (45, mkC [v45])])) : v56.Kept Try.prog 56 := by
  rintro ⟨bs, st, fl, s, ⟨⟩⟩ hpre k hk
  change List (Int × Int) at bs
  change Int at st fl
  change List Int at s
  refine aspec hmix hG Try.func56 tx56 (Eq.mpr (eq56 bs st fl s k) ?_)
  replace hk : k (.bool (goodB bs st fl s)) [] := hk
  unfold vc56
  obtain ⟨hf, hl, ha⟩ := hpre
  obtain ⟨f1, f2, f3, f4, f5, f6⟩ := fine_spec (h := hf)
  have f1 : bs.length ≤ 9 := f1
  have f2 : 1 ≤ st := f2
  have f3 : st ≤ 5 := f3
  have hl : s.length ≤ bs.length := hl
  refine ⟨⟨hl, by show bs.length ≤ 16; omega, f6, by show 0 ≤ st; omega, by show st ≤ 100; omega, ha⟩, ?_⟩
  have hlen : (wtsI bs s st).length = st.toNat := weights_len _ _ _
  refine Loop.upto (fun i => (s, (i : Int), bs, st, fl, wtsI bs s st, ())) (fun i => ∀ w ∈ (wtsI bs s st).take i, w ≤ fl) (wtsI bs s st).length rfl (by simp) ?_ ?_
  · intro i K hi hp hK
    dsimp only
    rw [br_decide]
    refine ⟨fun _ => ?_, fun h => absurd hi (by omega)⟩
    try simp only [Int.toNat_natCast]
    refine ⟨⟨by omega, by omega⟩, hi, ?_⟩
    rw [br_decide]
    refine ⟨fun h => ?_, fun h => ⟨fits64 (by omega) (by omega), hK (fun w hw => ?_)⟩⟩
    · have : goodB bs st fl s = false := by
        rw [goodB_eq, Bool.and_eq_false_iff]; left
        rw [← Bool.not_eq_true, List.all_eq_true]
        intro hh
        have := hh _ (List.getElem_mem hi)
        simp only [decide_eq_true_eq] at this
        omega
      rwa [this] at hk
    · rw [List.take_succ_eq_append_getElem hi, List.mem_append] at hw
      rcases hw with hw | hw
      · exact hp w hw
      · simp only [List.mem_singleton] at hw; omega
  · intro K hp
    dsimp only
    rw [br_decide]
    refine ⟨fun h => absurd h (by omega), fun _ => ?_⟩
    rw [List.take_length] at hp
    refine ⟨⟨hl, by show bs.length ≤ big60; simp only [big60]; omega⟩, ?_⟩
    have : goodB bs st fl s = smoothB bs s := by
      rw [goodB_eq]
      have : (weights bs s st.toNat).all (fun w => decide (w ≤ fl)) = true := by
        rw [List.all_eq_true]; intro w hw; simpa using hp w hw
      rw [this, Bool.true_and]
    rwa [this] at hk

/-! ### errors of stows -/
theorem stow_codes (bs : List (Int × Int)) (st fl : Int) (s : List Int) : stowErr bs st fl s = 0 ∨ stowErr bs st fl s = 6 ∨ stowErr bs st fl s = 3 ∨ stowErr bs st fl s = 15 ∨ stowErr bs st fl s = 2 ∨ stowErr bs st fl s = 23 := by
  unfold stowErr
  split
  · rcases load_codes bs st fl with h | h | h <;> simp [h]
  · split
    · simp
    · split
      · simp
      · split <;> simp
theorem stow_spec {bs : List (Int × Int)} {st fl : Int} {s : List Int} (h : stowErr bs st fl s = 0) : checkLoad bs st fl = 0 ∧ s.length = bs.length ∧ anyOut 0 (st - 1) s = false ∧ smoothB bs s = true := by
  unfold stowErr at h
  split at h
  · rename_i h1; exact absurd h h1
  · rename_i h1
    split at h
    · cases h
    · rename_i h2
      split at h
      · cases h
      · rename_i h3
        split at h
        · cases h
        · rename_i h4
          exact ⟨Classical.not_not.1 h1, Classical.not_not.1 h2, by simpa using h3, by simpa using h4⟩
theorem allIn_of {n : Int} {s : List Int} (h : anyOut 0 (n - 1) s = false) : allIn n s := by
  intro j hj
  unfold anyOut at h
  have : ¬ outOf 0 (n - 1) j = true := fun hb => by
    have : s.any (outOf 0 (n - 1)) = true := List.any_eq_true.2 ⟨j, hj, hb⟩
    rw [h] at this; cases this
  simp only [outOf, decide_eq_true_eq] at this
  omega
theorem br_errsW {bs : List (Int × Int)} {st fl : Int} {s : List Int} {p : Int → Prop} {q : Prop} (h : stowErr bs st fl s ≠ 0 → p (stowErr bs st fl s)) (h' : stowErr bs st fl s = 0 → q) :
    br (seIs bs st fl s 6) (p 6) (br (seIs bs st fl s 3) (p 3) (br (seIs bs st fl s 15) (p 15) (br (seIs bs st fl s 2) (p 2) (br (seIs bs st fl s 23) (p 23) q)))) := by
  simp only [br_iff, seIs, decide_eq_true_eq, decide_eq_false_iff_not]
  rcases stow_codes bs st fl s with e | e | e | e | e | e <;> rw [e] at h h' ⊢ <;> simp at h h' ⊢ <;> first | exact h | exact h'
theorem errsW_br {bs : List (Int × Int)} {st fl : Int} {s : List Int} {p : Int → Prop} {q : Prop}
    (h : br (seIs bs st fl s 6) (p 6) (br (seIs bs st fl s 3) (p 3) (br (seIs bs st fl s 15) (p 15) (br (seIs bs st fl s 2) (p 2) (br (seIs bs st fl s 23) (p 23) q))))) :
    (stowErr bs st fl s ≠ 0 → p (stowErr bs st fl s)) ∧ (stowErr bs st fl s = 0 → q) := by
  simp only [br_iff, seIs, decide_eq_true_eq, decide_eq_false_iff_not] at h
  rcases stow_codes bs st fl s with e | e | e | e | e | e <;> rw [e] at h ⊢ <;> simp at h ⊢ <;> exact h

theorem k51 (hG : Good Try.prog (envOf [(61, mkC [v61]), (59, mkC [v59]), (76, mkC [v76])])) : v51.Kept Try.prog 51 := by
  rintro ⟨bs, st, fl, s, ⟨⟩⟩ hpre k hk
  change List (Int × Int) at bs
  change Int at st fl
  change List Int at s
  refine aspec hmix hG Try.func51 tx51 (Eq.mpr (eq51 bs st fl s k) ?_)
  unfold vc51
  obtain ⟨hb, hl⟩ := hpre
  have hb : bs.length ≤ 16 := hb
  have hl : s.length ≤ 1152921504606846976 := hl
  obtain ⟨h1, h2⟩ := errsW_br (bs := bs) (st := st) (fl := fl) (s := s) (p := fun e => k (.tup [nilA, rI e]) []) (q := k (.tup [hold bs st fl, rI 0]) []) hk
  refine ⟨hb, ?_⟩
  refine br_errs (p := fun e => k (.tup [nilA, rI e]) []) (fun h => ?_) (fun h => ?_)
  · have e : stowErr bs st fl s = checkLoad bs st fl := by unfold stowErr; rw [if_pos h]
    rw [e] at h1
    exact h1 h
  obtain ⟨f1, f2, f3, f4, f5, f6⟩ := fine_spec h
  rw [br_bne]
  refine ⟨fun h3 => ?_, fun h3 => ⟨fits64 (by omega) (by omega), hl, ?_⟩⟩
  · have e : stowErr bs st fl s = 15 := by unfold stowErr; rw [if_neg (by simp [h]), if_pos (by omega)]
    rw [e] at h1
    exact h1 (by decide)
  rw [Bool.not_not]
  refine br_intro (fun h4 => ?_) (fun h4 => ⟨⟨by show s.length ≤ bs.length; omega, by show bs.length ≤ big60; simp only [big60]; omega⟩, ?_⟩)
  · have e : stowErr bs st fl s = 2 := by unfold stowErr; rw [if_neg (by simp [h]), if_neg (by omega), if_pos h4]
    rw [e] at h1
    exact h1 (by decide)
  rw [br_not]
  refine ⟨fun h5 => ?_, fun h5 => h2 ?_⟩
  · have e : stowErr bs st fl s = 23 := by unfold stowErr; rw [if_neg (by simp [h]), if_neg (by omega), if_neg (by simp [h4]), if_pos (by simp [h5])]
    rw [e] at h1
    exact h1 (by decide)
  · unfold stowErr; rw [if_neg (by simp [h]), if_neg (by omega), if_neg (by simp [h4]), if_neg (by simp [h5])]

theorem k55 (hG : Good Try.prog (envOf [(22, mkC [v22]), (45, mkC [v45])])) : v55.Kept Try.prog 55 := by
  rintro ⟨bs, st, fl, s, ⟨⟩⟩ hpre k hk
  change List (Int × Int) at bs
  change Int at st fl
  change List Int at s
  refine aspec hmix hG Try.func55 tx55 (Eq.mpr (eq55 bs st fl s k) ?_)
  replace hk : k (rI (stowErr bs st fl s)) [] := hk
  unfold vc55
  obtain ⟨hb, hl⟩ := hpre
  have hb : bs.length ≤ 16 := hb
  have hl : s.length ≤ 1152921504606846976 := hl
  refine ⟨hb, ?_⟩
  rw [br_bne]
  refine ⟨fun h => ⟨hb, ?_⟩, fun h => ?_⟩
  · have e : stowErr bs st fl s = checkLoad bs st fl := by unfold stowErr; rw [if_pos h]
    rwa [e] at hk
  obtain ⟨f1, f2, f3, f4, f5, f6⟩ := fine_spec h
  rw [br_bne]
  refine ⟨fun h3 => ?_, fun h3 => ?_⟩
  · have e : stowErr bs st fl s = 15 := by unfold stowErr; rw [if_neg (by simp [h]), if_pos (by omega)]
    rwa [e] at hk
  have e2 : ∀ y ∈ s, outOf 0 (st - 1) y = true → k (rI 2) [] := by
    intro y hy ho
    have e : stowErr bs st fl s = 2 := by
      have : anyOut 0 (st - 1) s = true := List.any_eq_true.2 ⟨y, hy, ho⟩
      unfold stowErr; rw [if_neg (by simp [h]), if_neg (by omega), if_pos this]
    rwa [e] at hk
  refine Loop.upto (fun i => (s, (i : Int), bs, st, fl, ())) (fun i => ∀ y ∈ s.take i, outOf 0 (st - 1) y = false) s.length rfl (by simp) ?_ ?_
  · intro i K hi hp hK
    dsimp only
    rw [br_decide]
    refine ⟨fun _ => ?_, fun h => absurd hi (by omega)⟩
    try simp only [Int.toNat_natCast]
    refine ⟨⟨by omega, by omega⟩, ?_⟩
    rw [br_false]
    refine ⟨fun h4 => ⟨⟨by omega, by omega⟩, ?_⟩, fun h4 => e2 _ (List.getElem_mem hi) (by simp [outOf]; omega)⟩
    rw [br_decide]
    exact ⟨fun h5 => e2 _ (List.getElem_mem hi) (by simp [outOf]; omega), fun h5 => ⟨fits64 (by omega) (by omega), hK (take_all_succ _ _ _ hi hp (by simp [outOf]; omega))⟩⟩
  · intro K hp
    dsimp only
    rw [br_decide]
    refine ⟨fun h => absurd h (by omega), fun _ => ?_⟩
    rw [List.take_length] at hp
    have h4 : anyOut 0 (st - 1) s = false := by
      rw [← Bool.not_eq_true]
      intro hh
      obtain ⟨y, hy, ho⟩ := List.any_eq_true.1 hh
      rw [hp y hy] at ho; cases ho
    refine ⟨⟨by show s.length ≤ bs.length; omega, by show bs.length ≤ big60; simp only [big60]; omega⟩, ?_⟩
    rw [br_not]
    refine ⟨fun h5 => ?_, fun h5 => ?_⟩
    · have e : stowErr bs st fl s = 23 := by unfold stowErr; rw [if_neg (by simp [h]), if_neg (by omega), if_neg (by simp [h4]), if_pos (by simp [h5])]
      rwa [e] at hk
    · have e : stowErr bs st fl s = 0 := by unfold stowErr; rw [if_neg (by simp [h]), if_neg (by omega), if_neg (by simp [h4]), if_neg (by simp [h5])]
      rwa [e] at hk

/-! ### how many stacks, and what they weigh -/
theorem wFrom_none {bs : List (Int × Int)} {k : Int} : ∀ (s : List Int) (i : Nat), (∀ x ∈ s, x ≠ k) → wFrom bs i s k = 0
  | [], _, _ => rfl
  | y :: s, i, h => by
    simp only [wFrom, if_neg (h y (by simp)), wFrom_none s (i + 1) (fun x hx => h x (List.mem_cons_of_mem _ hx))]
    rfl
theorem weights_more {bs : List (Int × Int)} {s : List Int} {st : Nat} (h : ∀ x ∈ s, (0 : Int) ≤ x ∧ x < (st : Int)) (m : Nat) : weights bs s (st + m) = weights bs s st ++ List.replicate m 0 := by
  apply List.ext_getElem
  · simp [weights]
  · intro i h1 h2
    rw [weights_at, List.getElem_append]
    split
    · rw [weights_at]
    · rename_i hh
      rw [weights_len] at hh
      rw [List.getElem_replicate]
      exact wFrom_none s 0 (fun x hx => by have := h x hx; omega)
theorem maxL_fold : ∀ (l : List Int), (∀ x ∈ l, 0 ≤ x) → maxL l = l.foldl (fun x y => max x y) 0
  | [], _ => rfl
  | a :: l, h => by
    have := h a (by simp)
    simp only [maxL, List.foldl_cons]
    rw [Int.max_eq_right this]
theorem fold_zero : ∀ (m : Nat) (a : Int), 0 ≤ a → (List.replicate m (0 : Int)).foldl (fun x y => max x y) a = a
  | 0, a, _ => rfl
  | m + 1, a, h => by
    simp only [List.replicate_succ, List.foldl_cons]
    rw [Int.max_eq_left h, fold_zero m a h]
theorem fold_ge : ∀ (l : List Int) (a : Int), a ≤ l.foldl (fun x y => max x y) a ∧ ∀ x ∈ l, x ≤ l.foldl (fun x y => max x y) a
  | [], a => ⟨Int.le_refl _, fun x h => by cases h⟩
  | b :: l, a => by
    have := fold_ge l (max a b)
    simp only [List.foldl_cons]
    refine ⟨by omega, fun x hx => ?_⟩
    rcases List.mem_cons.1 hx with rfl | hx
    · omega
    · exact this.2 x hx
theorem fold_mem : ∀ (l : List Int) (a : Int), l.foldl (fun x y => max x y) a = a ∨ l.foldl (fun x y => max x y) a ∈ l
  | [], a => .inl rfl
  | b :: l, a => by
    simp only [List.foldl_cons]
    rcases fold_mem l (max a b) with h | h
    · rw [h]
      rcases Int.le_total a b with h2 | h2
      · right; rw [Int.max_eq_right h2]; simp
      · left; rw [Int.max_eq_left h2]
    · right; exact List.mem_cons_of_mem _ h
theorem maxL_le {l : List Int} (h0 : 0 < l.length) (b : Int) : maxL l ≤ b ↔ ∀ x ∈ l, x ≤ b := by
  cases l with
  | nil => simp at h0
  | cons a l =>
    simp only [maxL]
    have h1 := fold_ge l a
    have h2 := fold_mem l a
    constructor
    · intro h x hx
      rcases List.mem_cons.1 hx with rfl | hx
      · omega
      · have := h1.2 x hx; omega
    · intro h
      rcases h2 with h2 | h2
      · rw [h2]; exact h a (by simp)
      · exact h _ (List.mem_cons_of_mem _ h2)
theorem goodB_max {bs : List (Int × Int)} {st fl : Int} {s : List Int} (hs : smoothB bs s = true) (h1 : 0 ≤ st ∧ st ≤ 5) (hfl : 0 ≤ fl) (ha : allIn st s) : goodB bs st fl s = decide (maxL (weights bs s 5) ≤ fl) := by
  have e : weights bs s 5 = weights bs s st.toNat ++ List.replicate (5 - st.toNat) 0 := by
    rw [← weights_more (st := st.toNat) (fun x hx => by have := ha x hx; omega)]
    congr 1; omega
  rw [goodB_eq, hs, Bool.and_true, Bool.eq_iff_iff, List.all_eq_true, decide_eq_true_eq, maxL_le (by rw [weights_len]; omega), e]
  simp only [decide_eq_true_eq, List.mem_append, List.mem_replicate]
  constructor
  · rintro h x (hx | ⟨_, rfl⟩)
    · exact h x hx
    · exact hfl
  · intro h x hx; exact h x (.inl hx)
theorem count_take {l : List Int} {i : Nat} (h : i < l.length) : ((l.take (i + 1)).filter (fun w => decide (0 < w))).length = ((l.take i).filter (fun w => decide (0 < w))).length + if l[i] > 0 then 1 else 0 := by
  rw [List.take_succ_eq_append_getElem h, List.filter_append, List.length_append]
  congr 1
  rw [List.filter_cons]
  by_cases h0 : l[i] > 0
  · rw [if_pos h0, if_pos (by simpa using h0)]; rfl
  · rw [if_neg h0, if_neg (by simpa using h0)]; rfl
theorem weights_nonneg {bs : List (Int × Int)} (h : anyBad bs = false) (s : List Int) (n : Nat) : ∀ x ∈ weights bs s n, 0 ≤ x := by
  intro x hx
  obtain ⟨i, hi, rfl⟩ := List.getElem_of_mem hx
  rw [weights_at]
  exact (wAt_spec h s _).1
theorem csErr_cases {bs : List (Int × Int)} {st fl : Int} {s : List Int} (h : stowErr bs st fl s = 0) : csErr bs st fl s = if goodB bs st fl s then 0 else 4 := by
  unfold csErr
  rw [if_neg (by simp [h])]
  cases goodB bs st fl s <;> simp
theorem cs_bad {bs : List (Int × Int)} {st fl : Int} {s : List Int} (h : stowErr bs st fl s ≠ 0) : csErr bs st fl s = stowErr bs st fl s ∧ csN bs st fl s = 0 ∧ csW bs st fl s = 0 := by
  have e : csErr bs st fl s = stowErr bs st fl s := by unfold csErr; rw [if_pos h]
  exact ⟨e, by unfold csN; rw [if_neg (by rw [e]; exact h)], by unfold csW; rw [if_neg (by rw [e]; exact h)]⟩
theorem cs_over {bs : List (Int × Int)} {st fl : Int} {s : List Int} (h : stowErr bs st fl s = 0) (hg : goodB bs st fl s = false) : csErr bs st fl s = 4 ∧ csN bs st fl s = 0 ∧ csW bs st fl s = 0 := by
  have e : csErr bs st fl s = 4 := by rw [csErr_cases h, hg]; rfl
  exact ⟨e, by unfold csN; rw [if_neg (by rw [e]; decide)], by unfold csW; rw [if_neg (by rw [e]; decide)]⟩
theorem cs_good {bs : List (Int × Int)} {st fl : Int} {s : List Int} (h : stowErr bs st fl s = 0) (hg : goodB bs st fl s = true) : csErr bs st fl s = 0 ∧ csN bs st fl s = (((weights bs s 5).filter (fun w => decide (0 < w))).length : Int) ∧ csW bs st fl s = maxL (weights bs s 5) := by
  have e : csErr bs st fl s = 0 := by rw [csErr_cases h, hg]; rfl
  exact ⟨e, by unfold csN; rw [if_pos e], by unfold csW; rw [if_pos e]⟩

theorem k19 (hG : Good Try.prog (envOf [(51, mkC [v51]), (52, mkC [v52]), (53, mkC [v53])])) : v19.Kept Try.prog 19 := by
  rintro ⟨bs, st, fl, s, ⟨⟩⟩ hpre k hk
  change List (Int × Int) at bs
  change Int at st fl
  change List Int at s
  refine aspec hmix hG Try.func19 tx19 (Eq.mpr (eq19 bs st fl s k) ?_)
  replace hk : k (.tup [rI (csN bs st fl s), rI (csW bs st fl s), rI (csErr bs st fl s)]) [] := hk
  unfold vc19
  obtain ⟨hb, hl⟩ := hpre
  have hb : bs.length ≤ 16 := hb
  have hl : s.length ≤ 1152921504606846976 := hl
  refine ⟨⟨hb, hl⟩, ?_⟩
  refine br_errsW (p := fun e => k (.tup [rI 0, rI 0, rI e]) []) (fun h => ?_) (fun h => ?_)
  · obtain ⟨e1, e2, e3⟩ := cs_bad h
    rw [e1, e2, e3] at hk
    exact hk
  obtain ⟨g1, g2, g3, g4⟩ := stow_spec h
  obtain ⟨f1, f2, f3, f4, f5, f6⟩ := fine_spec g1
  have ha := allIn_of g3
  have hw : (weights bs s 5).length = 5 := weights_len _ _ _
  have hgood := goodB_max (fl := fl) g4 ⟨by omega, f3⟩ (by omega) ha
  refine ⟨⟨g1, by show s.length ≤ bs.length; omega, fun j hj => by have := ha j hj; omega⟩, by rw [hw]; simp, by rw [hw]; rfl, by simp, by rw [hw]; rfl, by rw [hw]; rfl, by rfl, ?_⟩
  refine br_intro (fun h1 => ?_) (fun h1 => ⟨hw, ⟨by show 0 < (weights bs s 5).length; omega, by show (weights bs s 5).length ≤ big60; rw [hw]; decide⟩, ?_⟩)
  · have e : weights bs s 5 = List.replicate 5 0 := by simpa using h1
    rw [e] at hgood
    have hg : goodB bs st fl s = true := by rw [hgood]; simp [maxL, List.replicate]; omega
    obtain ⟨e1, e2, e3⟩ := cs_good h hg
    rw [e1, e2, e3, e] at hk
    exact hk
  rw [br_decide]
  refine ⟨fun h2 => ?_, fun h2 => ⟨by rw [hw]; rfl, ?_⟩⟩
  · obtain ⟨e1, e2, e3⟩ := cs_over h (by rw [hgood]; simp; omega)
    rw [e1, e2, e3] at hk
    exact hk
  obtain ⟨e1, e2, e3⟩ := cs_good h (by rw [hgood]; simp; omega)
  rw [e1, e2, e3] at hk
  refine Loop.upto (fun i => (maxL (weights bs s 5), ((((weights bs s 5).take i).filter (fun w => decide (0 < w))).length : Int), weights bs s 5, (i : Int), ())) (fun i => True) 5 rfl trivial ?_ ?_
  · intro i K hi hp hK
    dsimp only
    rw [br_decide]
    refine ⟨fun _ => ?_, fun h => absurd hi (by omega)⟩
    try simp only [Int.toNat_natCast]
    have hK := hK trivial
    have hi' : i < (weights bs s 5).length := by omega
    have hc := List.length_filter_le (fun w : Int => decide (0 < w)) ((weights bs s 5).take i)
    rw [List.length_take] at hc
    rw [count_take hi'] at hK
    refine ⟨⟨by omega, hi'⟩, hi, hw, ?_⟩
    rw [br_decide]
    refine ⟨fun h3 => ⟨fits64 (by omega) (by omega), fits64 (by omega) (by omega), ?_⟩, fun h3 => ⟨fits64 (by omega) (by omega), ?_⟩⟩
    · rw [if_pos h3] at hK; exact hK
    · rw [if_neg h3] at hK; exact hK
  · intro K hp
    dsimp only
    rw [br_decide]
    refine ⟨fun h => absurd h (by omega), fun _ => ?_⟩
    rw [List.take_of_length_le (by omega)]
    exact hk

theorem foldmax_take {l : List Int} {i : Nat} (h : i < l.length) : (l.take (i + 1)).foldl (fun x y => max x y) 0 = if l[i] > (l.take i).foldl (fun x y => max x y) 0 then l[i] else (l.take i).foldl (fun x y => max x y) 0 := by
  rw [List.take_succ_eq_append_getElem h, List.foldl_append]
  exact max_if _ _

theorem k20 (hG : Good Try.prog (envOf [(55, mkC [v55]), (56, mkC [v56]), (57, mkC [v57])])) : v20.Kept Try.prog 20 := by
  rintro ⟨bs, st, fl, s, ⟨⟩⟩ hpre k hk
  change List (Int × Int) at bs
  change Int at st fl
  change List Int at s
  refine aspec hmix hG Try.func20 tx20 (Eq.mpr (eq20 bs st fl s k) ?_)
  replace hk : k (.tup [rI (csN bs st fl s), rI (csW bs st fl s), rI (csErr bs st fl s)]) [] := hk
  unfold vc20
  obtain ⟨hb, hl⟩ := hpre
  have hb : bs.length ≤ 16 := hb
  have hl : s.length ≤ 1152921504606846976 := hl
  refine ⟨⟨hb, hl⟩, ?_⟩
  rw [br_bne]
  refine ⟨fun h => ⟨⟨hb, hl⟩, ?_⟩, fun h => ?_⟩
  · obtain ⟨e1, e2, e3⟩ := cs_bad h
    rw [e1, e2, e3] at hk
    exact hk
  obtain ⟨g1, g2, g3, g4⟩ := stow_spec h
  obtain ⟨f1, f2, f3, f4, f5, f6⟩ := fine_spec g1
  have ha := allIn_of g3
  refine ⟨⟨g1, by show s.length ≤ bs.length; omega, ha⟩, ?_⟩
  rw [br_not]
  refine ⟨fun h2 => ?_, fun h2 => ⟨⟨by show s.length ≤ bs.length; omega, by show bs.length ≤ 16; omega, f6, by show 0 ≤ st; omega, by show st ≤ 100; omega, ha⟩, ?_⟩⟩
  · obtain ⟨e1, e2, e3⟩ := cs_over h h2
    rw [e1, e2, e3] at hk
    exact hk
  obtain ⟨e1, e2, e3⟩ := cs_good h h2
  have ew : weights bs s 5 = weights bs s st.toNat ++ List.replicate (5 - st.toNat) 0 := by
    rw [← weights_more (st := st.toNat) (fun x hx => by have := ha x hx; omega)]
    congr 1; omega
  have en : ((weights bs s 5).filter (fun w => decide (0 < w))).length = ((wtsI bs s st).filter (fun w => decide (0 < w))).length := by
    rw [ew, List.filter_append, List.length_append]
    have : ∀ m, (List.replicate m (0 : Int)).filter (fun w => decide (0 < w)) = [] := by intro m; rw [List.filter_replicate]; rfl
    rw [this]; rfl
  have em : maxL (weights bs s 5) = (wtsI bs s st).foldl (fun x y => max x y) 0 := by
    rw [maxL_fold _ (weights_nonneg f6 s 5), ew, List.foldl_append]
    exact fold_zero _ _ (fold_ge _ _).1
  rw [e1, e2, e3, en, em] at hk
  have hlen : (wtsI bs s st).length = st.toNat := weights_len _ _ _
  generalize hW : wtsI bs s st = W at hk hlen ⊢
  refine Loop.upto (fun i => (((((W.take i).filter (fun w => decide (0 < w))).length : Nat) : Int), (W.take i).foldl (fun x y => max x y) 0, (i : Int), W, ())) (fun i => True) W.length rfl trivial ?_ ?_
  · intro i K hi hp hK
    dsimp only
    rw [br_decide]
    refine ⟨fun _ => ?_, fun h => absurd hi (by omega)⟩
    try simp only [Int.toNat_natCast]
    have hK := hK trivial
    have hc := List.length_filter_le (fun w : Int => decide (0 < w)) (W.take i)
    rw [List.length_take] at hc
    rw [count_take hi, foldmax_take hi] at hK
    refine ⟨⟨by omega, by omega⟩, hi, ?_⟩
    rw [br_decide]
    refine ⟨fun h3 => ⟨fits64 (by omega) (by omega), ⟨by omega, by omega⟩, hi, fits64 (by omega) (by omega), ?_⟩, fun h3 => ⟨⟨by omega, by omega⟩, hi, fits64 (by omega) (by omega), ?_⟩⟩
    · rw [if_pos h3] at hK; exact hK
    · rw [if_neg h3] at hK; exact hK
  · intro K hp
    dsimp only
    rw [br_decide]
    refine ⟨fun h => absurd h (by omega), fun _ => ?_⟩
    rw [List.take_length]
    exact hk
end Go.Abs.Ship
end

section
/- The contracts of the ship's functions: second part. -/
namespace Go.Abs.Ship
abbrev isBytes (l : List Int) : Prop := ∀ b ∈ l, 0 ≤ b ∧ b ≤ 255
abbrev mkT : MK := ⟨true, .pair (.int .i64) (.int .i64), .i64⟩
def bestT : List (Int × Int) → Int × Int
  | [] => (0, 0)
  | a :: l => l.foldl (fun o x => if x.1 < o.1 then x else o) a
def bestP (l : List (Int × Int)) : Int := (bestT l).1
def bestX (l : List (Int × Int)) : Int := (bestT l).2
def v80 : Var := ⟨.cs sH (.cs (.mref 0) (.cs sI .nl)), [.mp mkT], fun _ => True, fun x => .leaf (.fn (.func 94) [] [.iptr [.mref 0], .iptr [hold x.1 x.2.1 x.2.2.1], .iptr [rI x.2.2.2.1]]) [.mp mkT x.2.2.2.2.1 x.2.2.2.2.2.1]⟩
def v82 : Var := ⟨.cs sTop (.cs sTop .nl), [], fun _ => True, fun x => one (.bool (decide (x.1 < x.2.2.1)))⟩
def v81 : Var := ⟨.cs sBL (.cs (.fn 82 .nl .nl) .nl), [], fun x => 0 < x.1.length ∧ x.1.length ≤ big60, fun x => one (.agg [rI (bestP x.1), rI (bestX x.1)])⟩
abbrev Ok (bs : List (Int × Int)) : Prop := bs.length ≤ 1000 ∧ anyBad bs = false
def v62 : Var := ⟨.cs sH (.cs sL .nl), [], fun x => x.1.length ≤ 1000 ∧ x.2.2.2.1.length ≤ 1000 ∧ allIn (x.1.length : Int) x.2.2.2.1, fun x => .leaf (.tup [.reg 0 false, rI (fewN x.1 x.2.2.2.1)]) [.sl (.int .i64) (fewS x.1 x.2.2.2.1)]⟩
def v64 : Var := ⟨.cs sBL .nl, [], fun x => x.1.length ≤ 1000, fun x => one (rI (fewestOf x.1))⟩
def v23 : Var := ⟨.cs sLd .nl, [], fun x => x.1.length ≤ 16, fun x => r2 (fewestN x.1 x.2.1 x.2.2.1) (checkLoad x.1 x.2.1 x.2.2.1)⟩
def v24 : Var := ⟨.cs sLd .nl, [], fun x => x.1.length ≤ 16, fun x => r2 (fewestN x.1 x.2.1 x.2.2.1) (checkLoad x.1 x.2.1 x.2.2.1)⟩
def v65 : Var := ⟨.cs sL (.cs sI .nl), [], fun x => x.1.length ≤ big60 ∧ 0 ≤ x.2.1 ∧ x.2.1 ≤ 1000, fun x => one (.bool (isList x.1 x.2.1))⟩
def v25 : Var := ⟨.cs sLd (.cs sL .nl), [], fun x => x.1.length ≤ 16 ∧ x.2.2.2.1.length ≤ big60, fun x => r2 (riseN x.1 x.2.1 x.2.2.1 x.2.2.2.1) (riseErr x.1 x.2.1 x.2.2.1 x.2.2.2.1)⟩
def v26 : Var := ⟨.cs sLd (.cs sL .nl), [], fun x => x.1.length ≤ 16 ∧ x.2.2.2.1.length ≤ big60, fun x => r2 (riseN x.1 x.2.1 x.2.2.1 x.2.2.2.1) (riseErr x.1 x.2.1 x.2.2.1 x.2.2.2.1)⟩
def v66 : Var := ⟨.cs sH .nl, [], fun x => x.1.length ≤ 16 ∧ goodBoxes x.1, fun x => own (risingOf x.1)⟩
def v84 : Var := ⟨.cs sBL (.cs sI .nl), [], fun x => x.1.length ≤ 16 ∧ isBits x.2.1, fun x => one (.bool (riseBits x.1 x.2.1.toNat))⟩
def v67 : Var := ⟨.cs sBL .nl, [], fun x => x.1.length ≤ 16, fun x => own (risingOf x.1)⟩
def v27 : Var := ⟨.cs sLd .nl, [], fun x => x.1.length ≤ 16, fun x => ownE (risingN x.1 x.2.1 x.2.2.1) (checkLoad x.1 x.2.1 x.2.2.1)⟩
def v28 : Var := ⟨.cs sLd .nl, [], fun x => x.1.length ≤ 16, fun x => ownE (risingN x.1 x.2.1 x.2.2.1) (checkLoad x.1 x.2.1 x.2.2.1)⟩
def v29 : Var := ⟨.cs sLd .nl, [], fun x => x.1.length ≤ 16, fun x => ownE (smoothN x.1 x.2.1 x.2.2.1) (checkLoad x.1 x.2.1 x.2.2.1)⟩
def v31 : Var := ⟨.cs sLd (.cs sL .nl), [], fun x => x.1.length ≤ 16 ∧ x.2.2.2.1.length ≤ big60, fun x => one (.bool (smoothest x.1 x.2.2.2.1))⟩
/- the first stow -/
abbrev immB (l : List Int) (b : Bool) : RTree := one (.tup [.imm (.int .i64) l false, .bool b])
abbrev immE (l : List Int) (e : Int) : RTree := one (.tup [.imm (.int .i64) l false, rI e])
def v68 : Var := ⟨.cs sH (.cs sL .nl), [], fun x => Fine x.1 x.2.1 x.2.2.1 ∧ x.2.2.2.1.length ≤ x.1.length ∧ allIn x.2.1 x.2.2.2.1, fun x => immB (goL x.1 x.2.1 x.2.2.1 x.2.2.2.1) (goB x.1 x.2.1 x.2.2.1 x.2.2.2.1)⟩
def m68 : v68.D → Nat := fun x => x.1.length + 1 - x.2.2.2.1.length
def v69 : Var := ⟨.cs sLd (.cs sL .nl), [], fun x => Fine x.1 x.2.1 x.2.2.1 ∧ x.2.2.2.1.length ≤ x.1.length ∧ allIn x.2.1 x.2.2.2.1, fun x => immB (goL x.1 x.2.1 x.2.2.1 x.2.2.2.1) (goB x.1 x.2.1 x.2.2.1 x.2.2.2.1)⟩
def m69 : v69.D → Nat := fun x => x.1.length + 1 - x.2.2.2.1.length
def v32 : Var := ⟨.cs sLd .nl, [], fun x => x.1.length ≤ 16, fun x => immE (stowL x.1 x.2.1 x.2.2.1) (stowE x.1 x.2.1 x.2.2.1)⟩
def v33 : Var := ⟨.cs sLd .nl, [], fun x => x.1.length ≤ 16, fun x => immE (stowL x.1 x.2.1 x.2.2.1) (stowE x.1 x.2.1 x.2.2.1)⟩
def growPre : List AVal → List Cont → Prop
  | [.imm (.int .i64) [] true, .int .i64 n], [] => 1 ≤ n ∧ n ≤ 1000000
  | _, _ => False
def cGrow : Contract := ⟨growPre, fun _ _ => .leaf (.reg 0 false) [.sl (.int .i64) []], []⟩
def sumLen (l : List (List Int)) : Nat := l.foldl (fun n x => n + x.length) 0
def v70 : Var := ⟨.cs (.imm (.slice (.int .i64)) false) .nl, [], fun x => x.1.length ≤ 100 ∧ 1 ≤ sumLen x.1 ∧ sumLen x.1 ≤ 1000000, fun x => own (List.flatten x.1)⟩
def v34 : Var := ⟨.cs sLd (.cs sL .nl), [], fun x => x.1.length ≤ 16 ∧ x.2.2.2.1.length ≤ big60, fun x => ownE (chL x.1 x.2.1 x.2.2.1 x.2.2.2.1) (chE x.1 x.2.1 x.2.2.1 x.2.2.2.1)⟩
def v35 : Var := ⟨.cs sLd (.cs sL .nl), [], fun x => x.1.length ≤ 16 ∧ x.2.2.2.1.length ≤ big60, fun x => ownE (chL x.1 x.2.1 x.2.2.1 x.2.2.2.1) (chE x.1 x.2.1 x.2.2.1 x.2.2.2.1)⟩
/- boxes that are left -/
def v63i : Var := ⟨.cs sH .nl, [], fun x => x.1.length ≤ 1000, fun x => one (.imm (.int .i64) (allOf x.1) false)⟩
def v95 : Var := ⟨.cs sL (.cs sI .nl), [], fun x => x.1.length ≤ big60, fun x => one (rI (indexI x.2.1 x.1))⟩
def v90 : Var := ⟨.cs sL (.cs sI .nl), [], fun x => x.1.length ≤ big60, fun x => one (.bool (hasI x.1 x.2.1))⟩
def v89 : Var := ⟨.cs sI (.cs (.iptr (.cs sL .nl)) .nl), [], fun x => x.2.1.length ≤ big60, fun x => one (.bool (hasI x.2.1 x.1))⟩
abbrev sC89 : VS := .fn 89 .nl (.cs (.iptr (.cs sL .nl)) .nl)
def v93b : Var := ⟨.cs sL (.cs sC89 .nl), [], fun x => x.1.length ≤ big60 ∧ x.2.1.length ≤ big60, fun x => one (rI (indexHas x.1 x.2.1))⟩
def v88 : Var := ⟨.cs sL .nl, [], fun x => x.1.length ≤ 1000, fun x => own x.1⟩
def restOf (m l : List Int) : List Int := l.filter (fun i => !hasI m i)
def restZ (m l : List Int) : List Int := restOf m l ++ List.replicate (l.length - (restOf m l).length) 0
def anyHas (m l : List Int) : Bool := l.any (hasI m)
def v87 : Var := ⟨.cs (.reg 0 false) (.cs sC89 .nl), [.sl (.int .i64)], fun x => x.1.length ≤ big60 ∧ x.2.1.length ≤ 1000, fun x => .br (anyHas x.1 x.2.1) (.leaf (.sub 0 0 (restOf x.1 x.2.1).length false) [.sl (.int .i64) (restZ x.1 x.2.1)]) (.leaf (.reg 0 false) [.sl (.int .i64) x.2.1])⟩
def isZ (m : Int) : Bool := decide (m = 0)
def wiL0 (bs : List (Int × Int)) (st m : Int) (b : List Int) : List Int := if m = 0 then b else wiL bs st m b
def v71 : Var := ⟨.cs sH (.cs sL (.cs sL (.cs sI .nl))), [], fun x => Fine x.1 x.2.1 x.2.2.1 ∧ x.2.2.2.1 = allOf x.1 ∧ isList x.2.2.2.2.1 (x.1.length : Int) = true ∧ 0 ≤ x.2.2.2.2.2.1 ∧ x.2.2.2.2.2.1 ≤ 100,
  fun x => immB (wiL0 x.1 x.2.1 x.2.2.2.2.2.1 x.2.2.2.2.1) (wiB x.1 x.2.1 x.2.2.2.2.2.1 x.2.2.2.2.1)⟩
def m71 : v71.D → Nat := fun x => x.2.2.2.2.2.1.toNat
def v36 : Var := ⟨.cs sLd .nl, [], fun x => x.1.length ≤ 16, fun x => immE (leftL x.1 x.2.1 x.2.2.1) (checkLoad x.1 x.2.1 x.2.2.1)⟩
def v37 : Var := ⟨.cs sLd .nl, [], fun x => x.1.length ≤ 16, fun x => ownE (leftL x.1 x.2.1 x.2.2.1) (checkLoad x.1 x.2.1 x.2.2.1)⟩
/- in which order boxes go out -/
def cmpOut (bs : List (Int × Int)) (s : List Int) (i k : Int) : Int :=
  if pt bs i ≠ pt bs k then pt bs i - pt bs k else if s.getD i.toNat 0 ≠ s.getD k.toNat 0 then s.getD i.toNat 0 - s.getD k.toNat 0 else k - i
def v74 : Var := ⟨.cs sI (.cs sI (.cs (.iptr (.cs sH .nl)) (.cs (.iptr (.cs sL .nl)) .nl))), [], fun x => Fine x.2.2.1 x.2.2.2.1 x.2.2.2.2.1 ∧ x.2.2.2.2.2.1.length = x.2.2.1.length ∧ allIn 5 x.2.2.2.2.2.1 ∧ inBoxes x.2.2.1 x.1 ∧ inBoxes x.2.2.1 x.2.1,
  fun x => one (rI (cmpOut x.2.2.1 x.2.2.2.2.2.1 x.1 x.2.1))⟩
def outSorted (bs : List (Int × Int)) (s l : List Int) : List Int := l.mergeSort (fun x y => !decide (cmpOut bs s y x < 0))
abbrev sC74 : VS := .fn 74 .nl (.cs (.iptr (.cs sH .nl)) (.cs (.iptr (.cs sL .nl)) .nl))
def v73 : Var := ⟨.cs (.reg 0 false) (.cs sC74 .nl), [.sl (.int .i64)], fun x => Fine x.1 x.2.1 x.2.2.1 ∧ x.2.2.2.1.length = x.1.length ∧ allIn 5 x.2.2.2.1 ∧ allIn (x.1.length : Int) x.2.2.2.2.1 ∧ x.2.2.2.2.1.length ≤ 1000,
  fun x => .leaf (.tup []) [.sl (.int .i64) (outSorted x.1 x.2.2.2.1 x.2.2.2.2.1)]⟩
def v38 : Var := ⟨.cs sLd (.cs sL .nl), [], fun x => x.1.length ≤ 16 ∧ x.2.2.2.1.length ≤ big60, fun x => ownE (outL x.1 x.2.1 x.2.2.1 x.2.2.2.1) (stowErr x.1 x.2.1 x.2.2.1 x.2.2.2.1)⟩
def v39 : Var := ⟨.cs sLd (.cs sL .nl), [], fun x => x.1.length ≤ 16 ∧ x.2.2.2.1.length ≤ big60, fun x => ownE (outL x.1 x.2.1 x.2.2.1 x.2.2.2.1) (stowErr x.1 x.2.1 x.2.2.1 x.2.2.2.1)⟩
/- of the laws -/
def v41 : Var := ⟨.cs sLd .nl, [], fun x => Fine x.1 x.2.1 x.2.2.1, fun x => one (.tup [rI (fewestOf x.1), .bool true])⟩
abbrev sUL : VS := .imm (.int .u8) false
def v43 : Var := ⟨.cs sLd (.cs sUL .nl), [], fun x => Fine x.1 x.2.1 x.2.2.1 ∧ x.2.2.2.1.length ≤ 20 ∧ isBytes x.2.2.2.1, fun x => own (givenL x.1 x.2.1 x.2.2.2.1)⟩
end Go.Abs.Ship
end

