/- Part 5 of the road to this seat's statements: lemmas about a small interpreter over the model's code, and about the functions that it is used on. No condition of its own. -/
import Derived.Test.YtcjabkbjedcglaaProg
import Derived.Shelf.SlLaysF0
import Derived.ProofKit
import Derived.OpenShut
import Derived.Carry
import Derived.Deep.Slices
import Derived.Shelf.SlSortCmp.NoneTotal
import Derived.Shelf.SlSortCmp.WholeK
import Derived.Test.YtcjabkbjedcglaaW4

section
/- Conditions and their equations, printed by a program. -/
open Go.Proofs
set_option maxRecDepth 100000
set_option linter.unusedVariables false
namespace Go.Abs.Farm
def vc16 (pr : Int) (cl : List Int) (k : AVal → List Cont → Prop) : Prop :=
  (k (Go.Abs.AVal.bool (decide ((((List.length cl) : Nat) : Int) > (14 : Int)))) [])
theorem eq16 (pr : Int) (cl : List Int) (k : AVal → List Cont → Prop) : awpF (envOf []) Try.prog kt 16 false Try.f16 (v16.args (pr, cl, ())) (v16.conts (pr, cl, ())) k = vc16 pr cl k := by kernel_rfl
theorem tx16 : (Try.f16.body.map Code.textsOk).getD true = true := by kernel_rfl

def vc37 (pr : Int) (rs : List (Int × Int)) (k : AVal → List Cont → Prop) : Prop :=
  (k (Go.Abs.AVal.bool (decide ((((List.length rs) : Nat) : Int) > (14 : Int)))) [])
theorem eq37 (pr : Int) (rs : List (Int × Int)) (k : AVal → List Cont → Prop) : awpF (envOf []) Try.prog kt 37 false Try.f37 (v37.args (pr, rs, ())) (v37.conts (pr, rs, ())) k = vc37 pr rs k := by kernel_rfl
theorem tx37 : (Try.f37.body.map Code.textsOk).getD true = true := by kernel_rfl

def vc28 (a b : List Int) (k : AVal → List Cont → Prop) : Prop :=
  br (((((List.length a) : Nat) : Int) != (((List.length b) : Nat) : Int)))
   ((k (Go.Abs.AVal.bool Bool.false) []))
   (Go.Abs.Loop (σ := ((List Int) × ((List Int) × (Int × Unit)))) (fun K3 x3 =>
     br ((decide (x3.2.2.1 < (((List.length x3.1) : Nat) : Int))))
      (∃ h5 : (((0 : Int) ≤ x3.2.2.1) ∧ ((Int.toNat x3.2.2.1) < (List.length x3.1))),
      ∃ h6 : (((0 : Int) ≤ x3.2.2.1) ∧ ((Int.toNat x3.2.2.1) < (List.length x3.2.1))),
      br (((x3.1[(Int.toNat x3.2.2.1)]'h5.2) != (x3.2.1[(Int.toNat x3.2.2.1)]'h6.2)))
       ((k (Go.Abs.AVal.bool Bool.false) []))
       ((Go.Abs.fitsK Go.IntKind.i64 (x3.2.2.1 + (1 : Int))) ∧
       (K3 (x3.1, (x3.2.1, ((x3.2.2.1 + (1 : Int)), ()))))))
      ((k (Go.Abs.AVal.bool Bool.true) []))) ((a, (b, ((0 : Int), ())))))
theorem eq28 (a b : List Int) (k : AVal → List Cont → Prop) : awpF (envOf []) Try.prog kt 28 false Try.f28 (v28.args (a, b, ())) (v28.conts (a, b, ())) k = vc28 a b k := by kernel_rfl
theorem tx28 : (Try.f28.body.map Code.textsOk).getD true = true := by kernel_rfl

def vc47 (num den : Int) (k : AVal → List Cont → Prop) : Prop :=
  Go.Abs.Loop (σ := (Int × (Int × (Int × (Int × (Int × (Int × Unit))))))) (fun K3 x3 =>
    br ((x3.2.2.2.1 != (0 : Int)))
     ((((0 : Int) ≤ x3.2.2.1) ∧ ((0 : Int) < x3.2.2.2.1)) ∧
     (K3 (x3.1, (x3.2.1, (x3.2.2.2.1, ((HMod.hMod x3.2.2.1 x3.2.2.2.1), (x3.2.2.2.2.1, (x3.2.2.2.2.2.1, ()))))))))
     ((((0 : Int) ≤ x3.1) ∧ (((0 : Int) < x3.2.2.1) ∧ (Go.Abs.fitsK Go.IntKind.i64 (HDiv.hDiv x3.1 x3.2.2.1)))) ∧
     (((0 : Int) ≤ x3.2.1) ∧ (((0 : Int) < x3.2.2.1) ∧ (Go.Abs.fitsK Go.IntKind.i64 (HDiv.hDiv x3.2.1 x3.2.2.1)))) ∧
     (k (Go.Abs.AVal.agg ((Go.Abs.AVal.int Go.IntKind.i64 (HDiv.hDiv x3.1 x3.2.2.1)) :: ((Go.Abs.AVal.int Go.IntKind.i64 (HDiv.hDiv x3.2.1 x3.2.2.1)) :: []))) []))) ((num, (den, (num, (den, ((0 : Int), ((0 : Int), ())))))))
theorem eq47 (num den : Int) (k : AVal → List Cont → Prop) : awpF (envOf []) Try.prog kt 47 false Try.f47 (v47.args (num, den, ())) (v47.conts (num, den, ())) k = vc47 num den k := by kernel_rfl
theorem tx47 : (Try.f47.body.map Code.textsOk).getD true = true := by kernel_rfl

def vc57 (num den : Int) (k : AVal → List Cont → Prop) : Prop :=
  Go.Abs.Loop (σ := (Int × (Int × (Int × (Int × (Int × (Int × Unit))))))) (fun K3 x3 =>
    br ((decide (x3.2.2.2.1 > (0 : Int))))
     ((((0 : Int) ≤ x3.2.2.1) ∧ ((0 : Int) < x3.2.2.2.1)) ∧
     (K3 (x3.1, (x3.2.1, (x3.2.2.2.1, ((HMod.hMod x3.2.2.1 x3.2.2.2.1), (x3.2.2.2.2.1, (x3.2.2.2.2.2.1, ()))))))))
     ((((0 : Int) ≤ x3.1) ∧ (((0 : Int) < x3.2.2.1) ∧ (Go.Abs.fitsK Go.IntKind.i64 (HDiv.hDiv x3.1 x3.2.2.1)))) ∧
     (((0 : Int) ≤ x3.2.1) ∧ (((0 : Int) < x3.2.2.1) ∧ (Go.Abs.fitsK Go.IntKind.i64 (HDiv.hDiv x3.2.1 x3.2.2.1)))) ∧
     (k (Go.Abs.AVal.agg ((Go.Abs.AVal.int Go.IntKind.i64 (HDiv.hDiv x3.1 x3.2.2.1)) :: ((Go.Abs.AVal.int Go.IntKind.i64 (HDiv.hDiv x3.2.1 x3.2.2.1)) :: []))) []))) ((num, (den, (num, (den, ((0 : Int), ((0 : Int), ())))))))
theorem eq57 (num den : Int) (k : AVal → List Cont → Prop) : awpF (envOf []) Try.prog kt 57 false Try.f57 (v57.args (num, den, ())) (v57.conts (num, den, ())) k = vc57 num den k := by kernel_rfl
theorem tx57 : (Try.f57.body.map Code.textsOk).getD true = true := by kernel_rfl

def vc48 (l : List Int) (k : AVal → List Cont → Prop) : Prop :=
  Go.Abs.Loop (σ := ((List Int) × (Int × (Int × Unit)))) (fun K2 x2 =>
    br ((decide (x2.2.2.1 < (((List.length x2.1) : Nat) : Int))))
     (∃ h4 : (((0 : Int) ≤ x2.2.2.1) ∧ ((Int.toNat x2.2.2.1) < (List.length x2.1))),
     (Go.Abs.fitsK Go.IntKind.i64 (x2.2.1 + (x2.1[(Int.toNat x2.2.2.1)]'h4.2))) ∧
     (Go.Abs.fitsK Go.IntKind.i64 (x2.2.2.1 + (1 : Int))) ∧
     (K2 (x2.1, ((x2.2.1 + (x2.1[(Int.toNat x2.2.2.1)]'h4.2)), ((x2.2.2.1 + (1 : Int)), ())))))
     ((k (Go.Abs.AVal.int Go.IntKind.i64 x2.2.1) []))) ((l, ((0 : Int), ((0 : Int), ()))))
theorem eq48 (l : List Int) (k : AVal → List Cont → Prop) : awpF (envOf []) Try.prog kt 48 false Try.f48 (v48.args (l, ())) (v48.conts (l, ())) k = vc48 l k := by kernel_rfl
theorem tx48 : (Try.f48.body.map Code.textsOk).getD true = true := by kernel_rfl

def vc58 (l : List Int) (k : AVal → List Cont → Prop) : Prop :=
  Go.Abs.Loop (σ := (Int × ((List Int) × (Int × (Int × Unit))))) (fun K2 x2 =>
    br ((decide (x2.2.2.2.1 < x2.2.2.1)))
     (∃ h4 : (((0 : Int) ≤ x2.2.2.2.1) ∧ ((Int.toNat x2.2.2.2.1) < (List.length x2.2.1))),
     (Go.Abs.fitsK Go.IntKind.i64 (x2.1 + (x2.2.1[(Int.toNat x2.2.2.2.1)]'h4.2))) ∧
     (Go.Abs.fitsK Go.IntKind.i64 (x2.2.2.2.1 + (1 : Int))) ∧
     (K2 ((x2.1 + (x2.2.1[(Int.toNat x2.2.2.2.1)]'h4.2)), (x2.2.1, (x2.2.2.1, ((x2.2.2.2.1 + (1 : Int)), ()))))))
     ((k (Go.Abs.AVal.int Go.IntKind.i64 x2.1) []))) (((0 : Int), (l, ((((List.length l) : Nat) : Int), ((0 : Int), ())))))
theorem eq58 (l : List Int) (k : AVal → List Cont → Prop) : awpF (envOf []) Try.prog kt 58 false Try.f58 (v58.args (l, ())) (v58.conts (l, ())) k = vc58 l k := by kernel_rfl
theorem tx58 : (Try.f58.body.map Code.textsOk).getD true = true := by kernel_rfl

def vc49 (l : List Int) (k : AVal → List Cont → Prop) : Prop :=
  (k (Go.Abs.AVal.imm (Go.Abs.Ty.int Go.IntKind.i64) l Bool.false) [])
theorem eq49 (l : List Int) (k : AVal → List Cont → Prop) : awpF (envOf []) Try.prog kt 49 false Try.f49 (v49.args (l, ())) (v49.conts (l, ())) k = vc49 l k := by kernel_rfl
theorem tx49 : (Try.f49.body.map Code.textsOk).getD true = true := by kernel_rfl

def vc52 (pr : Int) (l : List Int) (k : AVal → List Cont → Prop) : Prop :=
  (k (Go.Abs.AVal.agg ((Go.Abs.AVal.int Go.IntKind.i64 pr) :: ((Go.Abs.AVal.imm (Go.Abs.Ty.int Go.IntKind.i64) l Bool.false) :: []))) [])
theorem eq52 (pr : Int) (l : List Int) (k : AVal → List Cont → Prop) : awpF (envOf []) Try.prog kt 52 false Try.f52 (v52.args (pr, l, ())) (v52.conts (pr, l, ())) k = vc52 pr l k := by kernel_rfl
theorem tx52 : (Try.f52.body.map Code.textsOk).getD true = true := by kernel_rfl

def vc53 (num den : Int) (k : AVal → List Cont → Prop) : Prop :=
  (k (Go.Abs.AVal.agg ((Go.Abs.AVal.int Go.IntKind.i64 num) :: ((Go.Abs.AVal.int Go.IntKind.i64 den) :: []))) [])
theorem eq53 (num den : Int) (k : AVal → List Cont → Prop) : awpF (envOf []) Try.prog kt 53 false Try.f53 (v53.args (num, den, ())) (v53.conts (num, den, ())) k = vc53 num den k := by kernel_rfl
theorem tx53 : (Try.f53.body.map Code.textsOk).getD true = true := by kernel_rfl

def vc54 (pr : Int) (l : List Int) (k : AVal → List Cont → Prop) : Prop :=
  Go.Abs.Loop (σ := ((List Int) × (Int × (Int × (Int × ((List (Int × Int)) × ((List (Int × Int)) × Unit))))))) (fun K3 x3 =>
    (Go.Abs.fitsK Go.IntKind.i64 (x3.2.1 + (1 : Int))) ∧
    br ((decide ((x3.2.1 + (1 : Int)) < (((List.length x3.1) : Nat) : Int))))
     (∃ h5 : (((0 : Int) ≤ x3.2.1) ∧ ((Int.toNat x3.2.1) < (List.length x3.1))),
     (Go.Abs.fitsK Go.IntKind.i64 (x3.2.1 + (1 : Int))) ∧
     ∃ h6 : (((0 : Int) ≤ (x3.2.1 + (1 : Int))) ∧ ((Int.toNat (x3.2.1 + (1 : Int))) < (List.length x3.1))),
     (((List.length x3.2.2.2.2.2.1) + (List.length (((x3.1[(Int.toNat x3.2.1)]'h5.2), (x3.1[(Int.toNat (x3.2.1 + (1 : Int)))]'h6.2)) :: ([] : List (Int × Int))))) ≤ Go.Abs.big) ∧
     (Go.Abs.fitsK Go.IntKind.i64 (x3.2.1 + (2 : Int))) ∧
     (K3 (x3.1, ((x3.2.1 + (2 : Int)), (x3.2.2.1, (x3.2.2.2.1, (x3.2.2.2.2.1, ((x3.2.2.2.2.2.1 ++ (((x3.1[(Int.toNat x3.2.1)]'h5.2), (x3.1[(Int.toNat (x3.2.1 + (1 : Int)))]'h6.2)) :: ([] : List (Int × Int)))), ()))))))))
     ((k (Go.Abs.AVal.agg ((Go.Abs.AVal.int Go.IntKind.i64 x3.2.2.2.1) :: ((Go.Abs.AVal.imm (Go.Abs.Ty.pair (Go.Abs.Ty.int Go.IntKind.i64) (Go.Abs.Ty.int Go.IntKind.i64)) x3.2.2.2.2.2.1 Bool.false) :: []))) []))) ((l, ((0 : Int), ((0 : Int), (pr, (([] : List (Int × Int)), (([] : List (Int × Int)), ())))))))
theorem eq54 (pr : Int) (l : List Int) (k : AVal → List Cont → Prop) : awpF (envOf []) Try.prog kt 54 true Try.f54 (v54.args (pr, l, ())) (v54.conts (pr, l, ())) k = vc54 pr l k := by kernel_rfl
theorem tx54 : (Try.f54.body.map Code.textsOk).getD true = true := by kernel_rfl

def vc62 (cl s : List Int) (k : AVal → List Cont → Prop) : Prop :=
  Go.Abs.Loop (σ := ((List Int) × ((List Int) × (Int × (Int × Unit))))) (fun K3 x3 =>
    br ((decide (x3.2.2.2.1 < (((List.length x3.1) : Nat) : Int))))
     (∃ h5 : (((0 : Int) ≤ x3.2.2.2.1) ∧ ((Int.toNat x3.2.2.2.1) < (List.length x3.1))),
     ∃ h6 : (((0 : Int) ≤ x3.2.2.1) ∧ ((Int.toNat x3.2.2.1) < (List.length x3.2.1))),
     (Go.Abs.fitsK Go.IntKind.i64 ((x3.2.1[(Int.toNat x3.2.2.1)]'h6.2) + (1 : Int))) ∧
     (Go.Abs.fitsK Go.IntKind.i64 ((x3.1[(Int.toNat x3.2.2.2.1)]'h5.2) * ((x3.2.1[(Int.toNat x3.2.2.1)]'h6.2) + (1 : Int)))) ∧
     ∃ h7 : (((0 : Int) ≤ x3.2.2.1) ∧ ((Int.toNat x3.2.2.1) < (List.length x3.1))),
     ∃ h8 : (((0 : Int) ≤ x3.2.2.2.1) ∧ ((Int.toNat x3.2.2.2.1) < (List.length x3.2.1))),
     (Go.Abs.fitsK Go.IntKind.i64 ((x3.2.1[(Int.toNat x3.2.2.2.1)]'h8.2) + (1 : Int))) ∧
     (Go.Abs.fitsK Go.IntKind.i64 ((x3.1[(Int.toNat x3.2.2.1)]'h7.2) * ((x3.2.1[(Int.toNat x3.2.2.2.1)]'h8.2) + (1 : Int)))) ∧
     br ((decide (((x3.1[(Int.toNat x3.2.2.2.1)]'h5.2) * ((x3.2.1[(Int.toNat x3.2.2.1)]'h6.2) + (1 : Int))) > ((x3.1[(Int.toNat x3.2.2.1)]'h7.2) * ((x3.2.1[(Int.toNat x3.2.2.2.1)]'h8.2) + (1 : Int))))))
      ((Go.Abs.fitsK Go.IntKind.i64 (x3.2.2.2.1 + (1 : Int))) ∧
      (K3 (x3.1, (x3.2.1, (x3.2.2.2.1, ((x3.2.2.2.1 + (1 : Int)), ()))))))
      ((Go.Abs.fitsK Go.IntKind.i64 (x3.2.2.2.1 + (1 : Int))) ∧
      (K3 (x3.1, (x3.2.1, (x3.2.2.1, ((x3.2.2.2.1 + (1 : Int)), ())))))))
     ((k (Go.Abs.AVal.int Go.IntKind.i64 x3.2.2.1) []))) ((cl, (s, ((0 : Int), ((1 : Int), ())))))
theorem eq62 (cl s : List Int) (k : AVal → List Cont → Prop) : awpF (envOf []) Try.prog kt 62 false Try.f62 (v62.args (cl, s, ())) (v62.conts (cl, s, ())) k = vc62 cl s k := by kernel_rfl
theorem tx62 : (Try.f62.body.map Code.textsOk).getD true = true := by kernel_rfl

def vc60 (pr : Int) (cl : List Int) (k : AVal → List Cont → Prop) : Prop :=
  (((0 : Int) ≤ (((List.length cl) : Nat) : Int)) ∧ (((((List.length cl) : Nat) : Int) = (((List.length cl) : Nat) : Int)) ∧ ((((List.length cl) : Nat) : Int) ≤ ((Go.Abs.big : Nat) : Int)))) ∧
  Go.Abs.Loop (σ := (Int × (Int × ((List Int) × ((List Int) × Unit))))) (fun K3 x3 =>
    br ((decide (x3.1 < x3.2.1)))
     ((Go.Abs.Farm.v62.p (x3.2.2.1, (x3.2.2.2.1, ()))) ∧
     (((0 : Int) ≤ (((Go.Abs.Farm.nextOf x3.2.2.1 x3.2.2.2.1) : Nat) : Int)) ∧ ((Int.toNat (((Go.Abs.Farm.nextOf x3.2.2.1 x3.2.2.2.1) : Nat) : Int)) < (List.length x3.2.2.2.1))) ∧
     ∃ h5 : ((Int.toNat (((Go.Abs.Farm.nextOf x3.2.2.1 x3.2.2.2.1) : Nat) : Int)) < (List.length x3.2.2.2.1)),
     (Go.Abs.fitsK Go.IntKind.i64 ((x3.2.2.2.1[(Int.toNat (((Go.Abs.Farm.nextOf x3.2.2.1 x3.2.2.2.1) : Nat) : Int))]'h5) + (1 : Int))) ∧
     (((0 : Int) ≤ (((Go.Abs.Farm.nextOf x3.2.2.1 x3.2.2.2.1) : Nat) : Int)) ∧ ((Int.toNat (((Go.Abs.Farm.nextOf x3.2.2.1 x3.2.2.2.1) : Nat) : Int)) < (List.length x3.2.2.2.1))) ∧
     ∃ h6 : ((Int.toNat (((Go.Abs.Farm.nextOf x3.2.2.1 x3.2.2.2.1) : Nat) : Int)) < (List.length x3.2.2.2.1)),
     (Go.Abs.fitsK Go.IntKind.i64 (x3.1 + (1 : Int))) ∧
     (K3 ((x3.1 + (1 : Int)), (x3.2.1, (x3.2.2.1, ((List.set x3.2.2.2.1 (Int.toNat (((Go.Abs.Farm.nextOf x3.2.2.1 x3.2.2.2.1) : Nat) : Int)) ((x3.2.2.2.1[(Int.toNat (((Go.Abs.Farm.nextOf x3.2.2.1 x3.2.2.2.1) : Nat) : Int))]'h5) + (1 : Int))), ()))))))
     ((k (Go.Abs.AVal.reg 0 Bool.false) ((Go.Abs.Cont.sl (Go.Abs.Ty.int Go.IntKind.i64) x3.2.2.2.1) :: [])))) (((0 : Int), (pr, (cl, ((List.replicate (Int.toNat (((List.length cl) : Nat) : Int)) (Int.ofNat 0)), ())))))
theorem eq60 (pr : Int) (cl : List Int) (k : AVal → List Cont → Prop) : awpF (envOf [(62, mkC [v62])]) Try.prog kt 60 false Try.f60 (v60.args (pr, cl, ())) (v60.conts (pr, cl, ())) k = vc60 pr cl k := by kernel_rfl
theorem tx60 : (Try.f60.body.map Code.textsOk).getD true = true := by kernel_rfl

def vc78 (n lo hi : Int) (k : AVal → List Cont → Prop) : Prop :=
  br (((decide (n < lo)) == Bool.false))
   ((k (Go.Abs.AVal.bool (decide (n > hi))) []))
   ((k (Go.Abs.AVal.bool Bool.true) []))
theorem eq78 (n lo hi : Int) (k : AVal → List Cont → Prop) : awpF (envOf []) Try.prog kt 78 false Try.f78 (v78.args (n, lo, hi, ())) (v78.conts (n, lo, hi, ())) k = vc78 n lo hi k := by kernel_rfl
theorem tx78 : (Try.f78.body.map Code.textsOk).getD true = true := by kernel_rfl

def vc88 (l : List Int) (lo hi : Int) (k : AVal → List Cont → Prop) : Prop :=
  Go.Abs.Loop (σ := ((List Int) × (Int × (Int × (Int × (Int × Unit)))))) (fun K4 x4 =>
    br ((decide (x4.2.2.2.2.1 < x4.2.2.2.1)))
     (∃ h6 : (((0 : Int) ≤ x4.2.2.2.2.1) ∧ ((Int.toNat x4.2.2.2.2.1) < (List.length x4.1))),
     (Go.Abs.Farm.v78.p ((x4.1[(Int.toNat x4.2.2.2.2.1)]'h6.2), (x4.2.1, (x4.2.2.1, ())))) ∧
     br ((Go.Abs.Farm.outOf x4.2.1 x4.2.2.1 (x4.1[(Int.toNat x4.2.2.2.2.1)]'h6.2)))
      ((k (Go.Abs.AVal.int Go.IntKind.i64 x4.2.2.2.2.1) []))
      ((Go.Abs.fitsK Go.IntKind.i64 (x4.2.2.2.2.1 + (1 : Int))) ∧
      (K4 (x4.1, (x4.2.1, (x4.2.2.1, (x4.2.2.2.1, ((x4.2.2.2.2.1 + (1 : Int)), ()))))))))
     ((k (Go.Abs.AVal.int Go.IntKind.i64 (-(1 : Int) : Int)) []))) ((l, (lo, (hi, ((((List.length l) : Nat) : Int), ((0 : Int), ()))))))
theorem eq88 (l : List Int) (lo hi : Int) (k : AVal → List Cont → Prop) : awpF (envOf [(78, mkC [v78])]) Try.prog kt 88 false Try.f88 (v88.args (l, lo, hi, ())) (v88.conts (l, lo, hi, ())) k = vc88 l lo hi k := by kernel_rfl
theorem tx88 : (Try.f88.body.map Code.textsOk).getD true = true := by kernel_rfl

def vc77 (l : List Int) (lo hi : Int) (k : AVal → List Cont → Prop) : Prop :=
  (Go.Abs.Farm.v88.p (l, (lo, (hi, ())))) ∧
  (k (Go.Abs.AVal.bool (decide ((Go.Abs.Farm.indexOf (Go.Abs.Farm.outOf lo hi) l) ≥ (0 : Int)))) [])
theorem eq77 (l : List Int) (lo hi : Int) (k : AVal → List Cont → Prop) : awpF (envOf [(88, mkC [v88])]) Try.prog kt 77 false Try.f77 (v77.args (l, lo, hi, ())) (v77.conts (l, lo, hi, ())) k = vc77 l lo hi k := by kernel_rfl
theorem tx77 : (Try.f77.body.map Code.textsOk).getD true = true := by kernel_rfl

def vc56 (lo hi : Int) (l : List Int) (k : AVal → List Cont → Prop) : Prop :=
  (Go.Abs.Farm.v77.p (l, (lo, (hi, ())))) ∧
  (k (Go.Abs.AVal.bool (Bool.not (Go.Abs.Farm.anyOut lo hi l))) [])
theorem eq56 (lo hi : Int) (l : List Int) (k : AVal → List Cont → Prop) : awpF (envOf [(77, mkC [v77])]) Try.prog kt 56 false Try.f56 (v56.args (lo, hi, l, ())) (v56.conts (lo, hi, l, ())) k = vc56 lo hi l k := by kernel_rfl
theorem tx56 : (Try.f56.body.map Code.textsOk).getD true = true := by kernel_rfl

def vc66 (pr n : Int) (k : AVal → List Cont → Prop) : Prop :=
  (Go.Abs.Farm.v56.p ((0 : Int), ((200 : Int), ((pr :: ([] : List Int)), ())))) ∧
  br ((Bool.not (Bool.not (Go.Abs.Farm.anyOut (0 : Int) (200 : Int) (pr :: ([] : List Int))))))
   ((k (Go.Abs.AVal.int Go.IntKind.i64 (3 : Int)) []))
   ((Go.Abs.Farm.v56.p ((1 : Int), ((8 : Int), ((n :: ([] : List Int)), ())))) ∧
   br ((Bool.not (Bool.not (Go.Abs.Farm.anyOut (1 : Int) (8 : Int) (n :: ([] : List Int))))))
    ((k (Go.Abs.AVal.int Go.IntKind.i64 (6 : Int)) []))
    ((k (Go.Abs.AVal.int Go.IntKind.i64 (0 : Int)) [])))
theorem eq66 (pr n : Int) (k : AVal → List Cont → Prop) : awpF (envOf [(56, mkC [v56])]) Try.prog kt 66 false Try.f66 (v66.args (pr, n, ())) (v66.conts (pr, n, ())) k = vc66 pr n k := by kernel_rfl
theorem tx66 : (Try.f66.body.map Code.textsOk).getD true = true := by kernel_rfl

def vc26 (pr : Int) (cl : List Int) (k : AVal → List Cont → Prop) : Prop :=
  (Go.Abs.Farm.v66.p (pr, ((((List.length cl) : Nat) : Int), ()))) ∧
  br (((Go.Abs.Farm.sized pr (((List.length cl) : Nat) : Int)) != (0 : Int)))
   ((k (Go.Abs.AVal.int Go.IntKind.i64 (Go.Abs.Farm.sized pr (((List.length cl) : Nat) : Int))) []))
   ((Go.Abs.Farm.v56.p ((0 : Int), ((100 : Int), (cl, ())))) ∧
   br ((Bool.not (Bool.not (Go.Abs.Farm.anyOut (0 : Int) (100 : Int) cl))))
    ((k (Go.Abs.AVal.int Go.IntKind.i64 (3 : Int)) []))
    ((Go.Abs.Farm.v58.p (cl, ())) ∧
    br (((Go.Abs.Farm.sumL cl) == (0 : Int)))
     ((k (Go.Abs.AVal.int Go.IntKind.i64 (16 : Int)) []))
     ((k (Go.Abs.AVal.int Go.IntKind.i64 (0 : Int)) []))))
theorem eq26 (pr : Int) (cl : List Int) (k : AVal → List Cont → Prop) : awpF (envOf [(66, mkC [v66]), (56, mkC [v56]), (58, mkC [v58])]) Try.prog kt 26 false Try.f26 (v26.args (pr, cl, ())) (v26.conts (pr, cl, ())) k = vc26 pr cl k := by kernel_rfl
theorem tx26 : (Try.f26.body.map Code.textsOk).getD true = true := by kernel_rfl

def vc27 (pr : Int) (cl : List Int) (k : AVal → List Cont → Prop) : Prop :=
  br (((decide (pr < (0 : Int))) == Bool.false))
   (br ((decide (pr > (200 : Int))))
    ((k (Go.Abs.AVal.int Go.IntKind.i64 (3 : Int)) []))
    (br (((decide ((((List.length cl) : Nat) : Int) < (1 : Int))) == Bool.false))
     (br ((decide ((((List.length cl) : Nat) : Int) > (8 : Int))))
      ((k (Go.Abs.AVal.int Go.IntKind.i64 (6 : Int)) []))
      (Go.Abs.Loop (σ := (Int × (Int × ((List Int) × Unit)))) (fun K3 x3 =>
        br ((decide (x3.1 < (((List.length x3.2.2.1) : Nat) : Int))))
         (∃ h5 : (((0 : Int) ≤ x3.1) ∧ ((Int.toNat x3.1) < (List.length x3.2.2.1))),
         br (((decide ((x3.2.2.1[(Int.toNat x3.1)]'h5.2) < (0 : Int))) == Bool.false))
          (∃ h6 : (((0 : Int) ≤ x3.1) ∧ ((Int.toNat x3.1) < (List.length x3.2.2.1))),
          br ((decide ((x3.2.2.1[(Int.toNat x3.1)]'h6.2) > (100 : Int))))
           ((k (Go.Abs.AVal.int Go.IntKind.i64 (3 : Int)) []))
           ((Go.Abs.fitsK Go.IntKind.i64 (x3.1 + (1 : Int))) ∧
           (K3 ((x3.1 + (1 : Int)), (x3.2.1, (x3.2.2.1, ()))))))
          ((k (Go.Abs.AVal.int Go.IntKind.i64 (3 : Int)) [])))
         ((Go.Abs.Farm.v48.p (x3.2.2.1, ())) ∧
         br (((Go.Abs.Farm.sumL x3.2.2.1) == (0 : Int)))
          ((k (Go.Abs.AVal.int Go.IntKind.i64 (16 : Int)) []))
          ((k (Go.Abs.AVal.int Go.IntKind.i64 (0 : Int)) [])))) (((0 : Int), (pr, (cl, ()))))))
     ((k (Go.Abs.AVal.int Go.IntKind.i64 (6 : Int)) []))))
   ((k (Go.Abs.AVal.int Go.IntKind.i64 (3 : Int)) []))
theorem eq27 (pr : Int) (cl : List Int) (k : AVal → List Cont → Prop) : awpF (envOf [(48, mkC [v48])]) Try.prog kt 27 false Try.f27 (v27.args (pr, cl, ())) (v27.conts (pr, cl, ())) k = vc27 pr cl k := by kernel_rfl
theorem tx27 : (Try.f27.body.map Code.textsOk).getD true = true := by kernel_rfl

def vc42 (pr : Int) (cl : List Int) (k : AVal → List Cont → Prop) : Prop :=
  (Go.Abs.Farm.v16.p (pr, (cl, ()))) ∧
  br (((Bool.not (Go.Abs.Farm.great cl)) == Bool.true))
   ((Go.Abs.Farm.v27.p (pr, (cl, ()))) ∧
   (k (Go.Abs.AVal.bool ((Go.Abs.Farm.yearErr pr cl) == (0 : Int))) []))
   ((k (Go.Abs.AVal.bool Bool.false) []))
theorem eq42 (pr : Int) (cl : List Int) (k : AVal → List Cont → Prop) : awpF (envOf [(16, mkC [v16]), (27, mkC [v27])]) Try.prog kt 42 false Try.f42 (v42.args (pr, cl, ())) (v42.conts (pr, cl, ())) k = vc42 pr cl k := by kernel_rfl
theorem tx42 : (Try.f42.body.map Code.textsOk).getD true = true := by kernel_rfl

def vc45 (pr : Int) (cl : List Int) (s : List Int) (k : AVal → List Cont → Prop) : Prop :=
  (Go.Abs.Farm.v27.p (pr, (cl, ()))) ∧
  br (((Go.Abs.Farm.yearErr pr cl) != (0 : Int)))
   ((Go.Abs.Farm.v27.p (pr, (cl, ()))) ∧
   (k (Go.Abs.AVal.int Go.IntKind.i64 (Go.Abs.Farm.yearErr pr cl)) []))
   (br (((((List.length s) : Nat) : Int) != (((List.length cl) : Nat) : Int)))
    ((k (Go.Abs.AVal.int Go.IntKind.i64 (15 : Int)) []))
    (Go.Abs.Loop (σ := ((List Int) × (Int × (Int × ((List Int) × Unit))))) (fun K4 x4 =>
      br ((decide (x4.2.1 < (((List.length x4.1) : Nat) : Int))))
       (∃ h6 : (((0 : Int) ≤ x4.2.1) ∧ ((Int.toNat x4.2.1) < (List.length x4.1))),
       br (((decide ((x4.1[(Int.toNat x4.2.1)]'h6.2) < (0 : Int))) == Bool.false))
        (∃ h7 : (((0 : Int) ≤ x4.2.1) ∧ ((Int.toNat x4.2.1) < (List.length x4.1))),
        br ((decide ((x4.1[(Int.toNat x4.2.1)]'h7.2) > (200 : Int))))
         ((k (Go.Abs.AVal.int Go.IntKind.i64 (3 : Int)) []))
         ((Go.Abs.fitsK Go.IntKind.i64 (x4.2.1 + (1 : Int))) ∧
         (K4 (x4.1, ((x4.2.1 + (1 : Int)), (x4.2.2.1, (x4.2.2.2.1, ())))))))
        ((k (Go.Abs.AVal.int Go.IntKind.i64 (3 : Int)) [])))
       ((Go.Abs.Farm.v48.p (x4.1, ())) ∧
       br (((Go.Abs.Farm.sumL x4.1) != x4.2.2.1))
        ((k (Go.Abs.AVal.int Go.IntKind.i64 (14 : Int)) []))
        ((k (Go.Abs.AVal.int Go.IntKind.i64 (0 : Int)) [])))) ((s, ((0 : Int), (pr, (cl, ())))))))
theorem eq45 (pr : Int) (cl : List Int) (s : List Int) (k : AVal → List Cont → Prop) : awpF (envOf [(27, mkC [v27]), (48, mkC [v48])]) Try.prog kt 45 false Try.f45 (v45.args (pr, cl, s, ())) (v45.conts (pr, cl, s, ())) k = vc45 pr cl s k := by kernel_rfl
theorem tx45 : (Try.f45.body.map Code.textsOk).getD true = true := by kernel_rfl

def vc74 (a b : Int) (k : AVal → List Cont → Prop) : Prop :=
  (Go.Abs.Farm.v56.p ((0 : Int), ((100 : Int), ((a :: (b :: ([] : List Int))), ())))) ∧
  br (((Bool.not (Bool.not (Go.Abs.Farm.anyOut (0 : Int) (100 : Int) (a :: (b :: ([] : List Int)))))) == Bool.false))
   ((k (Go.Abs.AVal.bool (decide (a > b))) []))
   ((k (Go.Abs.AVal.bool Bool.true) []))
theorem eq74 (a b : Int) (k : AVal → List Cont → Prop) : awpF (envOf [(56, mkC [v56])]) Try.prog kt 74 false Try.f74 (v74.args (a, b, ())) (v74.conts (a, b, ())) k = vc74 a b k := by kernel_rfl
theorem tx74 : (Try.f74.body.map Code.textsOk).getD true = true := by kernel_rfl

def vc76 (a b : Int) (k : AVal → List Cont → Prop) : Prop :=
  (k (Go.Abs.AVal.bool (decide (a > (0 : Int)))) [])
theorem eq76 (a b : Int) (k : AVal → List Cont → Prop) : awpF (envOf []) Try.prog kt 76 false Try.f76 (v76.args (a, b, ())) (v76.conts (a, b, ())) k = vc76 a b k := by kernel_rfl
theorem tx76 : (Try.f76.body.map Code.textsOk).getD true = true := by kernel_rfl

def vc87a (rs : List (Int × Int)) (k : AVal → List Cont → Prop) : Prop :=
  Go.Abs.Loop (σ := ((List (Int × Int)) × (Int × (Int × Unit)))) (fun K2 x2 =>
    br ((decide (x2.2.2.1 < x2.2.1)))
     (∃ h4 : (((0 : Int) ≤ x2.2.2.1) ∧ ((Int.toNat x2.2.2.1) < (List.length x2.1))),
     (Go.Abs.Farm.v74.p ((x2.1[(Int.toNat x2.2.2.1)]'h4.2).1, ((x2.1[(Int.toNat x2.2.2.1)]'h4.2).2, ()))) ∧
     br ((Go.Abs.Farm.stray ((x2.1[(Int.toNat x2.2.2.1)]'h4.2).1, (x2.1[(Int.toNat x2.2.2.1)]'h4.2).2)))
      ((k (Go.Abs.AVal.int Go.IntKind.i64 x2.2.2.1) []))
      ((Go.Abs.fitsK Go.IntKind.i64 (x2.2.2.1 + (1 : Int))) ∧
      (K2 (x2.1, (x2.2.1, ((x2.2.2.1 + (1 : Int)), ()))))))
     ((k (Go.Abs.AVal.int Go.IntKind.i64 (-(1 : Int) : Int)) []))) ((rs, ((((List.length rs) : Nat) : Int), ((0 : Int), ()))))
theorem eq87a (rs : List (Int × Int)) (k : AVal → List Cont → Prop) : awpF (envOf [(74, mkC [v74])]) Try.prog kt 87 false Try.f87 (v87a.args (rs, ())) (v87a.conts (rs, ())) k = vc87a rs k := by kernel_rfl
theorem tx87 : (Try.f87.body.map Code.textsOk).getD true = true := by kernel_rfl

def vc87b (rs : List (Int × Int)) (k : AVal → List Cont → Prop) : Prop :=
  Go.Abs.Loop (σ := ((List (Int × Int)) × (Int × (Int × Unit)))) (fun K2 x2 =>
    br ((decide (x2.2.2.1 < x2.2.1)))
     (∃ h4 : (((0 : Int) ≤ x2.2.2.1) ∧ ((Int.toNat x2.2.2.1) < (List.length x2.1))),
     (Go.Abs.Farm.v76.p ((x2.1[(Int.toNat x2.2.2.1)]'h4.2).1, ((x2.1[(Int.toNat x2.2.2.1)]'h4.2).2, ()))) ∧
     br ((Go.Abs.Farm.up0 ((x2.1[(Int.toNat x2.2.2.1)]'h4.2).1, (x2.1[(Int.toNat x2.2.2.1)]'h4.2).2)))
      ((k (Go.Abs.AVal.int Go.IntKind.i64 x2.2.2.1) []))
      ((Go.Abs.fitsK Go.IntKind.i64 (x2.2.2.1 + (1 : Int))) ∧
      (K2 (x2.1, (x2.2.1, ((x2.2.2.1 + (1 : Int)), ()))))))
     ((k (Go.Abs.AVal.int Go.IntKind.i64 (-(1 : Int) : Int)) []))) ((rs, ((((List.length rs) : Nat) : Int), ((0 : Int), ()))))
theorem eq87b (rs : List (Int × Int)) (k : AVal → List Cont → Prop) : awpF (envOf [(76, mkC [v76])]) Try.prog kt 87 false Try.f87 (v87b.args (rs, ())) (v87b.conts (rs, ())) k = vc87b rs k := by kernel_rfl

def vc75a (rs : List (Int × Int)) (k : AVal → List Cont → Prop) : Prop :=
  (Go.Abs.Farm.v87a.p (rs, ())) ∧
  (k (Go.Abs.AVal.bool (decide ((Go.Abs.Farm.indexOf Go.Abs.Farm.stray rs) ≥ (0 : Int)))) [])
theorem eq75a (rs : List (Int × Int)) (k : AVal → List Cont → Prop) : awpF (envOf [(87, mkC [v87a])]) Try.prog kt 75 false Try.f75 (v75a.args (rs, ())) (v75a.conts (rs, ())) k = vc75a rs k := by kernel_rfl
theorem tx75 : (Try.f75.body.map Code.textsOk).getD true = true := by kernel_rfl

def vc75b (rs : List (Int × Int)) (k : AVal → List Cont → Prop) : Prop :=
  (Go.Abs.Farm.v87b.p (rs, ())) ∧
  (k (Go.Abs.AVal.bool (decide ((Go.Abs.Farm.indexOf Go.Abs.Farm.up0 rs) ≥ (0 : Int)))) [])
theorem eq75b (rs : List (Int × Int)) (k : AVal → List Cont → Prop) : awpF (envOf [(87, mkC [v87b])]) Try.prog kt 75 false Try.f75 (v75b.args (rs, ())) (v75b.conts (rs, ())) k = vc75b rs k := by kernel_rfl

def vc40 (pr : Int) (rs : List (Int × Int)) (k : AVal → List Cont → Prop) : Prop :=
  (Go.Abs.Farm.v66.p (pr, ((((List.length rs) : Nat) : Int), ()))) ∧
  br (((Go.Abs.Farm.sized pr (((List.length rs) : Nat) : Int)) != (0 : Int)))
   ((k (Go.Abs.AVal.int Go.IntKind.i64 (Go.Abs.Farm.sized pr (((List.length rs) : Nat) : Int))) []))
   ((Go.Abs.Farm.v75a.p (rs, ())) ∧
   br ((List.any rs Go.Abs.Farm.stray))
    ((k (Go.Abs.AVal.int Go.IntKind.i64 (3 : Int)) []))
    ((Go.Abs.Farm.v75b.p (rs, ())) ∧
    br ((Bool.not (List.any rs Go.Abs.Farm.up0)))
     ((k (Go.Abs.AVal.int Go.IntKind.i64 (16 : Int)) []))
     ((k (Go.Abs.AVal.int Go.IntKind.i64 (0 : Int)) []))))
theorem eq40 (pr : Int) (rs : List (Int × Int)) (k : AVal → List Cont → Prop) : awpF (envOf [(66, mkC [v66]), (75, mkC [v75a, v75b])]) Try.prog kt 40 false Try.f40 (v40.args (pr, rs, ())) (v40.conts (pr, rs, ())) k = vc40 pr rs k := by kernel_rfl
theorem tx40 : (Try.f40.body.map Code.textsOk).getD true = true := by kernel_rfl

def vc41 (pr : Int) (rs : List (Int × Int)) (k : AVal → List Cont → Prop) : Prop :=
  br (((decide (pr < (0 : Int))) == Bool.false))
   (br ((decide (pr > (200 : Int))))
    ((k (Go.Abs.AVal.int Go.IntKind.i64 (3 : Int)) []))
    (br (((decide ((((List.length rs) : Nat) : Int) < (1 : Int))) == Bool.false))
     (br ((decide ((((List.length rs) : Nat) : Int) > (8 : Int))))
      ((k (Go.Abs.AVal.int Go.IntKind.i64 (6 : Int)) []))
      (Go.Abs.Loop (σ := (Int × (Int × (Int × ((List (Int × Int)) × Unit))))) (fun K3 x3 =>
        br ((decide (x3.2.1 < (((List.length x3.2.2.2.1) : Nat) : Int))))
         (∃ h5 : (((0 : Int) ≤ x3.2.1) ∧ ((Int.toNat x3.2.1) < (List.length x3.2.2.2.1))),
         br (((decide ((x3.2.2.2.1[(Int.toNat x3.2.1)]'h5.2).1 < (0 : Int))) == Bool.false))
          (∃ h6 : (((0 : Int) ≤ x3.2.1) ∧ ((Int.toNat x3.2.1) < (List.length x3.2.2.2.1))),
          ∃ h7 : (((0 : Int) ≤ x3.2.1) ∧ ((Int.toNat x3.2.1) < (List.length x3.2.2.2.1))),
          br (((decide ((x3.2.2.2.1[(Int.toNat x3.2.1)]'h6.2).1 > (x3.2.2.2.1[(Int.toNat x3.2.1)]'h7.2).2)) == Bool.false))
           (∃ h8 : (((0 : Int) ≤ x3.2.1) ∧ ((Int.toNat x3.2.1) < (List.length x3.2.2.2.1))),
           br ((decide ((x3.2.2.2.1[(Int.toNat x3.2.1)]'h8.2).2 > (100 : Int))))
            ((k (Go.Abs.AVal.int Go.IntKind.i64 (3 : Int)) []))
            (∃ h9 : (((0 : Int) ≤ x3.2.1) ∧ ((Int.toNat x3.2.1) < (List.length x3.2.2.2.1))),
            (Go.Abs.fitsK Go.IntKind.i64 (x3.1 + (x3.2.2.2.1[(Int.toNat x3.2.1)]'h9.2).1)) ∧
            (Go.Abs.fitsK Go.IntKind.i64 (x3.2.1 + (1 : Int))) ∧
            (K3 ((x3.1 + (x3.2.2.2.1[(Int.toNat x3.2.1)]'h9.2).1), ((x3.2.1 + (1 : Int)), (x3.2.2.1, (x3.2.2.2.1, ())))))))
           ((k (Go.Abs.AVal.int Go.IntKind.i64 (3 : Int)) [])))
          ((k (Go.Abs.AVal.int Go.IntKind.i64 (3 : Int)) [])))
         (br ((x3.1 == (0 : Int)))
          ((k (Go.Abs.AVal.int Go.IntKind.i64 (16 : Int)) []))
          ((k (Go.Abs.AVal.int Go.IntKind.i64 (0 : Int)) [])))) (((0 : Int), ((0 : Int), (pr, (rs, ())))))))
     ((k (Go.Abs.AVal.int Go.IntKind.i64 (6 : Int)) []))))
   ((k (Go.Abs.AVal.int Go.IntKind.i64 (3 : Int)) []))
theorem eq41 (pr : Int) (rs : List (Int × Int)) (k : AVal → List Cont → Prop) : awpF (envOf []) Try.prog kt 41 false Try.f41 (v41.args (pr, rs, ())) (v41.conts (pr, rs, ())) k = vc41 pr rs k := by kernel_rfl
theorem tx41 : (Try.f41.body.map Code.textsOk).getD true = true := by kernel_rfl

def vc50 (pr : Int) (rs : List (Int × Int)) (k : AVal → List Cont → Prop) : Prop :=
  (Go.Abs.Farm.v37.p (pr, (rs, ()))) ∧
  br (((Bool.not (Go.Abs.Farm.wide rs)) == Bool.true))
   ((Go.Abs.Farm.v41.p (pr, (rs, ()))) ∧
   (k (Go.Abs.AVal.bool ((Go.Abs.Farm.roughErr pr rs) == (0 : Int))) []))
   ((k (Go.Abs.AVal.bool Bool.false) []))
theorem eq50 (pr : Int) (rs : List (Int × Int)) (k : AVal → List Cont → Prop) : awpF (envOf [(37, mkC [v37]), (41, mkC [v41])]) Try.prog kt 50 false Try.f50 (v50.args (pr, rs, ())) (v50.conts (pr, rs, ())) k = vc50 pr rs k := by kernel_rfl
theorem tx50 : (Try.f50.body.map Code.textsOk).getD true = true := by kernel_rfl

def vc55 (pr : Int) (cl : List Int) (sh : List (List Int)) (k : AVal → List Cont → Prop) : Prop :=
  (Go.Abs.Farm.v26.p (pr, (cl, ()))) ∧
  br (((Go.Abs.Farm.yearErr pr cl) != (0 : Int)))
   ((k (Go.Abs.AVal.tup ((Go.Abs.AVal.sem Go.Abs.nilP) :: ((Go.Abs.AVal.int Go.IntKind.i64 (Go.Abs.Farm.yearErr pr cl)) :: []))) []))
   (Go.Abs.Loop (σ := ((List (List Int)) × (Int × (Int × (Int × ((List Int) × Unit)))))) (fun K4 x4 =>
     br ((decide (x4.2.2.1 < x4.2.1)))
      (∃ h6 : (((0 : Int) ≤ x4.2.2.1) ∧ ((Int.toNat x4.2.2.1) < (List.length x4.1))),
      br (((((List.length (x4.1[(Int.toNat x4.2.2.1)]'h6.2)) : Nat) : Int) != (((List.length x4.2.2.2.2.1) : Nat) : Int)))
       ((k (Go.Abs.AVal.tup ((Go.Abs.AVal.sem Go.Abs.nilP) :: ((Go.Abs.AVal.int Go.IntKind.i64 (15 : Int)) :: []))) []))
       ((Go.Abs.Farm.v56.p ((0 : Int), ((200 : Int), ((x4.1[(Int.toNat x4.2.2.1)]'h6.2), ())))) ∧
       br ((Bool.not (Bool.not (Go.Abs.Farm.anyOut (0 : Int) (200 : Int) (x4.1[(Int.toNat x4.2.2.1)]'h6.2)))))
        ((k (Go.Abs.AVal.tup ((Go.Abs.AVal.sem Go.Abs.nilP) :: ((Go.Abs.AVal.int Go.IntKind.i64 (3 : Int)) :: []))) []))
        ((Go.Abs.Farm.v58.p ((x4.1[(Int.toNat x4.2.2.1)]'h6.2), ())) ∧
        br (((Go.Abs.Farm.sumL (x4.1[(Int.toNat x4.2.2.1)]'h6.2)) != x4.2.2.2.1))
         ((k (Go.Abs.AVal.tup ((Go.Abs.AVal.sem Go.Abs.nilP) :: ((Go.Abs.AVal.int Go.IntKind.i64 (14 : Int)) :: []))) []))
         ((Go.Abs.fitsK Go.IntKind.i64 (x4.2.2.1 + (1 : Int))) ∧
         (K4 (x4.1, (x4.2.1, ((x4.2.2.1 + (1 : Int)), (x4.2.2.2.1, (x4.2.2.2.2.1, ()))))))))))
      ((k (Go.Abs.AVal.tup ((Go.Abs.AVal.iptr ((Go.Abs.AVal.int Go.IntKind.i64 x4.2.2.2.1) :: ((Go.Abs.AVal.imm (Go.Abs.Ty.int Go.IntKind.i64) x4.2.2.2.2.1 Bool.false) :: []))) :: ((Go.Abs.AVal.int Go.IntKind.i64 (0 : Int)) :: []))) []))) ((sh, ((((List.length sh) : Nat) : Int), ((0 : Int), (pr, (cl, ())))))))
theorem eq55 (pr : Int) (cl : List Int) (sh : List (List Int)) (k : AVal → List Cont → Prop) : awpF (envOf [(26, mkC [v26]), (56, mkC [v56]), (58, mkC [v58])]) Try.prog kt 55 false Try.f55 (v55.args (pr, cl, sh, ())) (v55.conts (pr, cl, sh, ())) k = vc55 pr cl sh k := by kernel_rfl
theorem tx55 : (Try.f55.body.map Code.textsOk).getD true = true := by kernel_rfl

def vc93 (a : Int) (k : AVal → List Cont → Prop) : Prop :=
  (k (Go.Abs.AVal.bool (a != a)) [])
theorem eq93 (a : Int) (k : AVal → List Cont → Prop) : awpF (envOf []) Try.prog kt 93 false Try.f93 (v93.args (a, ())) (v93.conts (a, ())) k = vc93 a k := by kernel_rfl
theorem tx93 : (Try.f93.body.map Code.textsOk).getD true = true := by kernel_rfl

def vc94 (a : Int) (k : AVal → List Cont → Prop) : Prop :=
  (k (Go.Abs.AVal.bool (a != a)) [])
theorem eq94 (a : Int) (k : AVal → List Cont → Prop) : awpF (envOf []) Try.prog kt 94 false Try.f94 (v94.args (a, ())) (v94.conts (a, ())) k = vc94 a k := by kernel_rfl
theorem tx94 : (Try.f94.body.map Code.textsOk).getD true = true := by kernel_rfl

def vc84 (a b : Int) (k : AVal → List Cont → Prop) : Prop :=
  (Go.Abs.Farm.v93.p (a, ())) ∧
  (Go.Abs.Farm.v93.p (b, ())) ∧
  br ((decide (a < b)))
   ((k (Go.Abs.AVal.int Go.IntKind.i64 (-(1 : Int) : Int)) []))
   (br ((decide (a > b)))
    ((k (Go.Abs.AVal.int Go.IntKind.i64 (1 : Int)) []))
    ((k (Go.Abs.AVal.int Go.IntKind.i64 (0 : Int)) [])))
theorem eq84 (a b : Int) (k : AVal → List Cont → Prop) : awpF (envOf [(93, mkC [v93])]) Try.prog kt 84 false Try.f84 (v84.args (a, b, ())) (v84.conts (a, b, ())) k = vc84 a b k := by kernel_rfl
theorem tx84 : (Try.f84.body.map Code.textsOk).getD true = true := by kernel_rfl

def vc85 (a b : Int) (k : AVal → List Cont → Prop) : Prop :=
  (Go.Abs.Farm.v94.p (a, ())) ∧
  (Go.Abs.Farm.v94.p (b, ())) ∧
  br ((decide (a < b)))
   ((k (Go.Abs.AVal.int Go.IntKind.i64 (-(1 : Int) : Int)) []))
   (br ((decide (a > b)))
    ((k (Go.Abs.AVal.int Go.IntKind.i64 (1 : Int)) []))
    ((k (Go.Abs.AVal.int Go.IntKind.i64 (0 : Int)) [])))
theorem eq85 (a b : Int) (k : AVal → List Cont → Prop) : awpF (envOf [(94, mkC [v94])]) Try.prog kt 85 false Try.f85 (v85.args (a, b, ())) (v85.conts (a, b, ())) k = vc85 a b k := by kernel_rfl
theorem tx85 : (Try.f85.body.map Code.textsOk).getD true = true := by kernel_rfl

def vc83 (l : List Int) (k : AVal → List Cont → Prop) : Prop :=
  Go.Abs.Loop (σ := (Int × ((List Int) × (Int × (Int × Unit))))) (fun K2 x2 =>
    br ((decide (x2.2.2.2.1 < x2.2.2.1)))
     (∃ h4 : (((0 : Int) ≤ x2.2.2.2.1) ∧ ((Int.toNat x2.2.2.2.1) < (List.length x2.2.1))),
     br (((x2.2.1[(Int.toNat x2.2.2.2.1)]'h4.2) != x2.1))
      ((k (Go.Abs.AVal.int Go.IntKind.i64 (x2.2.1[(Int.toNat x2.2.2.2.1)]'h4.2)) []))
      ((Go.Abs.fitsK Go.IntKind.i64 (x2.2.2.2.1 + (1 : Int))) ∧
      (K2 (x2.1, (x2.2.1, (x2.2.2.1, ((x2.2.2.2.1 + (1 : Int)), ())))))))
     ((k (Go.Abs.AVal.int Go.IntKind.i64 x2.1) []))) (((0 : Int), (l, ((((List.length l) : Nat) : Int), ((0 : Int), ())))))
theorem eq83 (l : List Int) (k : AVal → List Cont → Prop) : awpF (envOf []) Try.prog kt 83 false Try.f83 (v83.args (l, ())) (v83.conts (l, ())) k = vc83 l k := by kernel_rfl
theorem tx83 : (Try.f83.body.map Code.textsOk).getD true = true := by kernel_rfl

def vc67 (pr : Int) (cl : List Int) (a1 a2 b1 b2 : Int) (k : AVal → List Cont → Prop) : Prop :=
  ∃ h7 : (((0 : Int) ≤ a1) ∧ ((Int.toNat a1) < (List.length cl))),
  (Go.Abs.fitsK Go.IntKind.i64 ((cl[(Int.toNat a1)]'h7.2) * b2)) ∧
  ∃ h8 : (((0 : Int) ≤ b1) ∧ ((Int.toNat b1) < (List.length cl))),
  (Go.Abs.fitsK Go.IntKind.i64 ((cl[(Int.toNat b1)]'h8.2) * a2)) ∧
  (Go.Abs.Farm.v85.p (((cl[(Int.toNat a1)]'h7.2) * b2), (((cl[(Int.toNat b1)]'h8.2) * a2), ()))) ∧
  (k (Go.Abs.AVal.int Go.IntKind.i64 (Go.Abs.Farm.cmpI ((cl[(Int.toNat a1)]'h7.2) * b2) ((cl[(Int.toNat b1)]'h8.2) * a2))) [])
theorem eq67 (pr : Int) (cl : List Int) (a1 a2 b1 b2 : Int) (k : AVal → List Cont → Prop) : awpF (envOf [(85, mkC [v85])]) Try.prog kt 67 false Try.f67 (v67.args (pr, cl, a1, a2, b1, b2, ())) (v67.conts (pr, cl, a1, a2, b1, b2, ())) k = vc67 pr cl a1 a2 b1 b2 k := by kernel_rfl
theorem tx67 : (Try.f67.body.map Code.textsOk).getD true = true := by kernel_rfl

def vc82 (a1 a2 b1 b2 : Int) (pr : Int) (cl : List Int) (k : AVal → List Cont → Prop) : Prop :=
  (Go.Abs.Farm.v67.p (pr, (cl, (b1, (b2, (a1, (a2, ()))))))) ∧
  (Go.Abs.Farm.v84.p (a1, (b1, ()))) ∧
  (Go.Abs.Farm.v85.p (a2, (b2, ()))) ∧
  (Go.Abs.Farm.v83.p (((Go.Abs.Farm.moreI cl b1 b2 a1 a2) :: ((Go.Abs.Farm.cmpI a1 b1) :: ((Go.Abs.Farm.cmpI a2 b2) :: ([] : List Int)))), ())) ∧
  (k (Go.Abs.AVal.int Go.IntKind.i64 (Go.Abs.Farm.orI ((Go.Abs.Farm.moreI cl b1 b2 a1 a2) :: ((Go.Abs.Farm.cmpI a1 b1) :: ((Go.Abs.Farm.cmpI a2 b2) :: ([] : List Int)))))) [])
theorem eq82 (a1 a2 b1 b2 : Int) (pr : Int) (cl : List Int) (k : AVal → List Cont → Prop) : awpF (envOf [(67, mkC [v67]), (84, mkC [v84]), (85, mkC [v85]), (83, mkC [v83])]) Try.prog kt 82 false Try.f82 (v82.args (a1, a2, b1, b2, pr, cl, ())) (v82.conts (a1, a2, b1, b2, pr, cl, ())) k = vc82 a1 a2 b1 b2 pr cl k := by kernel_rfl
theorem tx82 : (Try.f82.body.map Code.textsOk).getD true = true := by kernel_rfl

def vc79 (pr : Int) (cl : List Int) (n : Int) (k : AVal → List Cont → Prop) : Prop :=
  (k (Go.Abs.AVal.fn (Go.Fn.func (89 : Nat)) [] ((Go.Abs.AVal.iptr ((Go.Abs.AVal.iptr ((Go.Abs.AVal.int Go.IntKind.i64 pr) :: ((Go.Abs.AVal.imm (Go.Abs.Ty.int Go.IntKind.i64) cl Bool.false) :: []))) :: [])) :: ((Go.Abs.AVal.iptr ((Go.Abs.AVal.int Go.IntKind.i64 n) :: [])) :: []))) [])
theorem eq79 (pr : Int) (cl : List Int) (n : Int) (k : AVal → List Cont → Prop) : awpF (envOf []) Try.prog kt 79 false Try.f79 (v79.args (pr, cl, n, ())) (v79.conts (pr, cl, n, ())) k = vc79 pr cl n k := by kernel_rfl
theorem tx79 : (Try.f79.body.map Code.textsOk).getD true = true := by kernel_rfl

def vc90 (pr : Int) (cl : List Int) (n : Int) (k : AVal → List Cont → Prop) : Prop :=
  Go.Abs.Loop (σ := (Int × (Int × (Int × (Int × ((List Int) × (Int × ((List (Int × Int)) × Unit)))))))) (fun K4 x4 =>
    br ((decide (x4.2.2.1 < x4.2.1)))
     (Go.Abs.Loop (σ := (Int × (Int × (Int × (Int × (Int × (Int × (Int × ((List Int) × (Int × ((List (Int × Int)) × Unit))))))))))) (fun K6 x6 =>
       br ((decide (x6.2.2.2.2.2.1 < x6.2.2.2.2.1)))
        ((Go.Abs.fitsK Go.IntKind.i64 (x6.2.2.2.2.2.1 + (1 : Int))) ∧
        (((List.length x6.2.2.2.2.2.2.2.2.2.1) + (List.length ((x6.2.1, (x6.2.2.2.2.2.1 + (1 : Int))) :: ([] : List (Int × Int))))) ≤ Go.Abs.big) ∧
        (Go.Abs.fitsK Go.IntKind.i64 (x6.2.2.2.2.2.1 + (1 : Int))) ∧
        (K6 (x6.1, (x6.2.1, (x6.2.2.1, (x6.2.2.2.1, (x6.2.2.2.2.1, ((x6.2.2.2.2.2.1 + (1 : Int)), (x6.2.2.2.2.2.2.1, (x6.2.2.2.2.2.2.2.1, (x6.2.2.2.2.2.2.2.2.1, ((x6.2.2.2.2.2.2.2.2.2.1 ++ ((x6.2.1, (x6.2.2.2.2.2.1 + (1 : Int))) :: ([] : List (Int × Int)))), ()))))))))))))
        ((Go.Abs.fitsK Go.IntKind.i64 (x6.2.2.2.1 + (1 : Int))) ∧
        (K4 (x6.1, (x6.2.2.1, ((x6.2.2.2.1 + (1 : Int)), (x6.2.2.2.2.2.2.1, (x6.2.2.2.2.2.2.2.1, (x6.2.2.2.2.2.2.2.2.1, (x6.2.2.2.2.2.2.2.2.2.1, ())))))))))) ((x4.1, (x4.2.2.1, (x4.2.1, (x4.2.2.1, (x4.1, ((0 : Int), (x4.2.2.2.1, (x4.2.2.2.2.1, (x4.2.2.2.2.2.1, (x4.2.2.2.2.2.2.1, ()))))))))))))
     ((k (Go.Abs.AVal.reg 0 Bool.false) ((Go.Abs.Cont.sl (Go.Abs.Ty.pair (Go.Abs.Ty.int Go.IntKind.i64) (Go.Abs.Ty.int Go.IntKind.i64)) x4.2.2.2.2.2.2.1) :: [])))) ((n, ((((List.length cl) : Nat) : Int), ((0 : Int), (pr, (cl, (n, (([] : List (Int × Int)), ()))))))))
theorem eq90 (pr : Int) (cl : List Int) (n : Int) (k : AVal → List Cont → Prop) : awpF (envOf []) Try.prog kt 90 false Try.f90 (v90.args (pr, cl, n, ())) (v90.conts (pr, cl, n, ())) k = vc90 pr cl n k := by kernel_rfl
theorem tx90 : (Try.f90.body.map Code.textsOk).getD true = true := by kernel_rfl

def vc80 (pr : Int) (cl : List Int) (n : Int) (k : AVal → List Cont → Prop) : Prop :=
  (Go.Abs.Farm.v90.p (pr, (cl, (n, ())))) ∧
  (k (Go.Abs.AVal.reg 0 Bool.false) ((Go.Abs.Cont.sl (Go.Abs.Ty.pair (Go.Abs.Ty.int Go.IntKind.i64) (Go.Abs.Ty.int Go.IntKind.i64)) (Go.Abs.Farm.allC cl n)) :: []))
theorem eq80 (pr : Int) (cl : List Int) (n : Int) (k : AVal → List Cont → Prop) : awpF (envOf [(90, mkC [v90])]) Try.prog kt 80 false Try.f80 (v80.args (pr, cl, n, ())) (v80.conts (pr, cl, n, ())) k = vc80 pr cl n k := by kernel_rfl
theorem tx80 : (Try.f80.body.map Code.textsOk).getD true = true := by kernel_rfl

def vc61 (pr : Int) (cl : List Int) (n : Int) (k : AVal → List Cont → Prop) : Prop :=
  (Go.Abs.Farm.v79.p (pr, (cl, (n, ())))) ∧
  (Go.Abs.Farm.v80.p (pr, (cl, (n, ())))) ∧
  (Go.Abs.Farm.v81.p (pr, (cl, ((Go.Abs.Farm.allC cl n), ())))) ∧
  (k (Go.Abs.AVal.reg 0 Bool.false) ((Go.Abs.Cont.sl (Go.Abs.Ty.pair (Go.Abs.Ty.int Go.IntKind.i64) (Go.Abs.Ty.int Go.IntKind.i64)) (List.mergeSort (Go.Abs.Farm.allC cl n) (fun e4 => (fun e5 => (Bool.not (decide ((Go.Abs.Farm.cmpC cl e5 e4) < (0 : Int)))))))) :: []))
theorem eq61 (pr : Int) (cl : List Int) (n : Int) (k : AVal → List Cont → Prop) : awpF (envOf [(79, mkC [v79]), (80, mkC [v80]), (81, mkC [v81]), (67, mkC [v67]), (82, mkC [v82])]) Try.prog kt 61 false Try.f61 (v61.args (pr, cl, n, ())) (v61.conts (pr, cl, n, ())) k = vc61 pr cl n k := by kernel_rfl
theorem tx61 : (Try.f61.body.map Code.textsOk).getD true = true := by kernel_rfl

def vc59 (pr : Int) (cl : List Int) (n : Int) (k : AVal → List Cont → Prop) : Prop :=
  (Go.Abs.Farm.v79.p (pr, (cl, (n, ())))) ∧
  Go.Abs.Loop (σ := (Int × (Int × (Int × (Int × ((List Int) × (Int × (Int × ((List Int) × (Int × ((List Int) × ((List (Nat × ((Int × Int) × Int))) × (Nat × Unit))))))))))))) (fun K4 x4 =>
    br ((decide (x4.2.2.1 < x4.2.1)))
     (Go.Abs.Loop (σ := (Int × (Int × (Int × (Int × (Int × (Int × (Int × ((List Int) × (Int × (Int × ((List Int) × (Int × ((List Int) × ((List (Nat × ((Int × Int) × Int))) × (Nat × Unit)))))))))))))))) (fun K6 x6 =>
       br ((decide (x6.2.2.2.2.2.1 < x6.2.2.2.2.1)))
        ((Go.Abs.fitsK Go.IntKind.i64 (x6.2.2.2.2.2.1 + (1 : Int))) ∧
        (Go.Abs.fitsK Go.IntKind.i64 (x6.2.2.2.2.2.1 + (1 : Int))) ∧
        (K6 (x6.1, (x6.2.1, (x6.2.2.1, (x6.2.2.2.1, (x6.2.2.2.2.1, ((x6.2.2.2.2.2.1 + (1 : Int)), (x6.2.2.2.2.2.2.1, (x6.2.2.2.2.2.2.2.1, (x6.2.2.2.2.2.2.2.2.1, (x6.2.2.2.2.2.2.2.2.2.1, (x6.2.2.2.2.2.2.2.2.2.2.1, (x6.2.2.2.2.2.2.2.2.2.2.2.1, (x6.2.2.2.2.2.2.2.2.2.2.2.2.1, ((Go.Abs.mput (Go.Abs.Ty.pair (Go.Abs.Ty.int Go.IntKind.i64) (Go.Abs.Ty.int Go.IntKind.i64)) x6.2.2.2.2.2.2.2.2.2.2.2.2.2.1 x6.2.2.2.2.2.2.2.2.2.2.2.2.2.2.1 (x6.2.1, (x6.2.2.2.2.2.1 + (1 : Int))) (x6.2.2.2.2.2.1 + (1 : Int))), ((Go.Abs.mclk (Go.Abs.Ty.pair (Go.Abs.Ty.int Go.IntKind.i64) (Go.Abs.Ty.int Go.IntKind.i64)) x6.2.2.2.2.2.2.2.2.2.2.2.2.2.1 x6.2.2.2.2.2.2.2.2.2.2.2.2.2.2.1 (x6.2.1, (x6.2.2.2.2.2.1 + (1 : Int)))), ())))))))))))))))))
        ((Go.Abs.fitsK Go.IntKind.i64 (x6.2.2.2.1 + (1 : Int))) ∧
        (K4 (x6.1, (x6.2.2.1, ((x6.2.2.2.1 + (1 : Int)), (x6.2.2.2.2.2.2.1, (x6.2.2.2.2.2.2.2.1, (x6.2.2.2.2.2.2.2.2.1, (x6.2.2.2.2.2.2.2.2.2.1, (x6.2.2.2.2.2.2.2.2.2.2.1, (x6.2.2.2.2.2.2.2.2.2.2.2.1, (x6.2.2.2.2.2.2.2.2.2.2.2.2.1, (x6.2.2.2.2.2.2.2.2.2.2.2.2.2.1, (x6.2.2.2.2.2.2.2.2.2.2.2.2.2.2.1, ()))))))))))))))) ((x4.1, (x4.2.2.1, (x4.2.1, (x4.2.2.1, (x4.1, ((0 : Int), (x4.2.2.2.1, (x4.2.2.2.2.1, (x4.2.2.2.2.2.1, (x4.2.2.2.2.2.2.1, (x4.2.2.2.2.2.2.2.1, (x4.2.2.2.2.2.2.2.2.1, (x4.2.2.2.2.2.2.2.2.2.1, (x4.2.2.2.2.2.2.2.2.2.2.1, (x4.2.2.2.2.2.2.2.2.2.2.2.1, ())))))))))))))))))
     ((Go.Abs.Farm.v61.p (x4.2.2.2.1, (x4.2.2.2.2.1, (x4.2.2.2.2.2.1, ())))) ∧
     (((0 : Int) ≤ x4.2.2.2.2.2.1) ∧ (x4.2.2.2.2.2.1 ≤ (((List.length (Go.Abs.Farm.claimsOf x4.2.2.2.2.1 x4.2.2.2.2.2.1)) : Nat) : Int))) ∧
     Go.Abs.Loop (σ := (Nat × (Nat × (Int × (Int × ((List Int) × ((List (Int × Int)) × ((List (Nat × ((Int × Int) × Int))) × (Nat × Unit))))))))) (fun K6 x6 =>
       br ((decide (x6.2.2.2.1 < x6.2.2.1)))
        ((((0 : Int) ≤ x6.2.2.2.1) ∧ ((Int.toNat x6.2.2.2.1) < x6.2.1)) ∧
        ∃ h8 : ((x6.1 + (Int.toNat x6.2.2.2.1)) < (List.length x6.2.2.2.2.2.1)),
        (Go.Abs.fitsK Go.IntKind.i64 (x6.2.2.2.1 + (1 : Int))) ∧
        (K6 (x6.1, (x6.2.1, (x6.2.2.1, ((x6.2.2.2.1 + (1 : Int)), (x6.2.2.2.2.1, (x6.2.2.2.2.2.1, ((Go.Abs.mdel (Go.Abs.Ty.pair (Go.Abs.Ty.int Go.IntKind.i64) (Go.Abs.Ty.int Go.IntKind.i64)) ((x6.2.2.2.2.2.1[(x6.1 + (Int.toNat x6.2.2.2.1))]'h8).1, (x6.2.2.2.2.2.1[(x6.1 + (Int.toNat x6.2.2.2.1))]'h8).2) x6.2.2.2.2.2.2.1), (x6.2.2.2.2.2.2.2.1, ()))))))))))
        (((List.length (List.replicate (8 : Nat) (Int.ofNat 0))) = (8 : Nat)) ∧
        Go.Abs.Loop (σ := ((List Int) × ((List Int) × (Nat × ((List Nat) × (Nat × ((List (Nat × ((Int × Int) × Int))) × (Nat × Unit)))))))) (fun K8 x8 =>
          ((∀ e10 : (Nat × ((Int × Int) × Int)), ((Membership.mem x8.2.2.2.2.2.1 e10) → (e10.1 < x8.2.2.1))) ∧ (x8.2.2.1 ≤ x8.2.2.2.2.1)) ∧
          (∀ b10 : ((Go.Abs.mleft (Go.Abs.Ty.pair (Go.Abs.Ty.int Go.IntKind.i64) (Go.Abs.Ty.int Go.IntKind.i64)) x8.2.2.2.2.2.1 x8.2.2.2.1) = ([] : List (Nat × ((Int × Int) × Int)))),
           (((List.length x8.2.1) * (Go.Abs.Ty.size (Go.Abs.Ty.int Go.IntKind.i64))) = (Go.Abs.sizeT Go.Proofs.Try.prog (79 : Nat))) ∧
           ((List.length x8.2.1) = (Go.Abs.arrLenT Go.Proofs.Try.prog (79 : Nat))) ∧
           ((List.length (List.replicate (8 : Nat) (Int.ofNat 0))) = (Go.Abs.arrLenT Go.Proofs.Try.prog (79 : Nat))) ∧
           br ((x8.2.1 == (List.replicate (8 : Nat) (Int.ofNat 0))))
            (((List.length (List.replicate (8 : Nat) (Int.ofNat 0))) = (List.length x8.1)) ∧
            (((List.length (List.replicate (8 : Nat) (Int.ofNat 0))) * (Go.Abs.Ty.size (Go.Abs.Ty.int Go.IntKind.i64))) = (Go.Abs.sizeT Go.Proofs.Try.prog (79 : Nat))) ∧
            ((0 : Nat) < (List.length x8.1)) ∧
            (((List.length (List.replicate (8 : Nat) (Int.ofNat 0))) * (Go.Abs.Ty.size (Go.Abs.Ty.int Go.IntKind.i64))) = (Go.Abs.sizeT Go.Proofs.Try.prog (79 : Nat))) ∧
            (k (Go.Abs.AVal.arrv (Go.Abs.Ty.int Go.IntKind.i64) (List.replicate (8 : Nat) (Int.ofNat 0))) []))
            ((((List.length x8.2.1) * (Go.Abs.Ty.size (Go.Abs.Ty.int Go.IntKind.i64))) = (Go.Abs.sizeT Go.Proofs.Try.prog (79 : Nat))) ∧
            ((List.length x8.2.1) = (List.length x8.1)) ∧
            (((List.length x8.2.1) * (Go.Abs.Ty.size (Go.Abs.Ty.int Go.IntKind.i64))) = (Go.Abs.sizeT Go.Proofs.Try.prog (79 : Nat))) ∧
            ((0 : Nat) < (List.length x8.1)) ∧
            (((List.length x8.2.1) * (Go.Abs.Ty.size (Go.Abs.Ty.int Go.IntKind.i64))) = (Go.Abs.sizeT Go.Proofs.Try.prog (79 : Nat))) ∧
            (k (Go.Abs.AVal.arrv (Go.Abs.Ty.int Go.IntKind.i64) x8.2.1) []))) ∧
          ∀ b10 : (Nat × ((Int × Int) × Int)),
          ∀ b11 : (Membership.mem (Go.Abs.mleft (Go.Abs.Ty.pair (Go.Abs.Ty.int Go.IntKind.i64) (Go.Abs.Ty.int Go.IntKind.i64)) x8.2.2.2.2.2.1 x8.2.2.2.1) b10),
          ((x8.2.2.2.2.2.2.1 = x8.2.2.2.2.2.2.1) ∧ (List.Nodup (List.map (fun e12 => e12.1) x8.2.2.2.2.2.1))) ∧
          ∃ h12 : (Nat × ((Int × Int) × Int)),
          ((Membership.mem x8.2.2.2.2.2.1 h12) ∧ ((List.getLast? (x8.2.2.2.1 ++ (b10.1 :: []))) = (Option.some h12.1))) ∧
          (((0 : Int) ≤ h12.2.1.1) ∧ ((Int.toNat h12.2.1.1) < (8 : Nat))) ∧
          ∃ h13 : ((Int.toNat h12.2.1.1) < (List.length x8.2.1)),
          (((0 : Int) ≤ h12.2.1.1) ∧ ((Int.toNat h12.2.1.1) < (8 : Nat))) ∧
          ∃ h14 : ((Int.toNat h12.2.1.1) < (List.length x8.2.1)),
          (K8 (x8.1, ((List.set x8.2.1 (Int.toNat h12.2.1.1) (ite (h12.2.2 > (x8.2.1[(Int.toNat h12.2.1.1)]'h13)) h12.2.2 (x8.2.1[(Int.toNat h12.2.1.1)]'h13))), (x8.2.2.1, ((x8.2.2.2.1 ++ (b10.1 :: [])), (x8.2.2.2.2.2.2.1, (x8.2.2.2.2.2.1, (x8.2.2.2.2.2.2.1, ()))))))))) ((x6.2.2.2.2.1, ((List.replicate (List.length (List.replicate (8 : Nat) (Int.ofNat 0))) (Int.ofNat 0)), (x6.2.2.2.2.2.2.2.1, ([], (x6.2.2.2.2.2.2.2.1, (x6.2.2.2.2.2.2.1, (x6.2.2.2.2.2.2.2.1, ())))))))))) (((Int.toNat x4.2.2.2.2.2.1), (((List.length (Go.Abs.Farm.claimsOf x4.2.2.2.2.1 x4.2.2.2.2.2.1)) - (Int.toNat x4.2.2.2.2.2.1)), (((((List.length (Go.Abs.Farm.claimsOf x4.2.2.2.2.1 x4.2.2.2.2.2.1)) - (Int.toNat x4.2.2.2.2.2.1)) : Nat) : Int), ((0 : Int), (x4.2.2.2.2.2.2.2.2.2.1, ((Go.Abs.Farm.claimsOf x4.2.2.2.2.1 x4.2.2.2.2.2.1), (x4.2.2.2.2.2.2.2.2.2.2.1, (x4.2.2.2.2.2.2.2.2.2.2.2.1, ()))))))))))) ((n, ((((List.length cl) : Nat) : Int), ((0 : Int), (pr, (cl, (n, (pr, (cl, (n, ((List.replicate (8 : Nat) (Int.ofNat 0)), (([] : List (Nat × ((Int × Int) × Int))), ((0 : Nat), ())))))))))))))
theorem eq59 (pr : Int) (cl : List Int) (n : Int) (k : AVal → List Cont → Prop) : awpF (envOf [(79, mkC [v79]), (61, mkC [v61])]) Try.prog kt 59 false Try.f59 (v59.args (pr, cl, n, ())) (v59.conts (pr, cl, n, ())) k = vc59 pr cl n k := by kernel_rfl
theorem tx59 : (Try.f59.body.map Code.textsOk).getD true = true := by kernel_rfl

end Go.Abs.Farm
end

section
/- Bits of numbers that are not negative. -/
namespace Go.Abs

theorem ofInt_toNat (a : Nat) (h : a < 9223372036854775808) : (BitVec.ofInt 64 (a : Int)).toNat = a := by
  rw [BitVec.toNat_ofInt]
  have : ((a : Int) % ((2 ^ 64 : Nat) : Int)) = (a : Int) := by
    apply Int.emod_eq_of_lt
    · omega
    · have : ((2 ^ 64 : Nat) : Int) = 18446744073709551616 := by decide
      rw [this]; omega
  rw [this]; simp

theorem wrap_nat (a : Nat) (h : a < 9223372036854775808) : IntKind.i64.wrap (a : Int) = a := by
  rw [IntKind.wrap_i64]; omega

theorem land_nat (a b : Nat) (ha : a < 9223372036854775808) (hb : b < 9223372036854775808) : bitsA .and .i64 a b = ((a &&& b : Nat) : Int) := by
  show IntKind.i64.wrap ((BitVec.ofInt 64 (a : Int) &&& BitVec.ofInt 64 (b : Int)).toNat : Int) = _
  rw [BitVec.toNat_and, ofInt_toNat a ha, ofInt_toNat b hb]
  exact wrap_nat _ (Nat.lt_of_le_of_lt Nat.and_le_left ha)

theorem lor_nat (a b : Nat) (ha : a < 9223372036854775808) (hb : b < 9223372036854775808) : bitsA .or .i64 a b = ((a ||| b : Nat) : Int) := by
  show IntKind.i64.wrap ((BitVec.ofInt 64 (a : Int) ||| BitVec.ofInt 64 (b : Int)).toNat : Int) = _
  rw [BitVec.toNat_or, ofInt_toNat a ha, ofInt_toNat b hb]
  exact wrap_nat _ (by
    have h1 : a < 2 ^ 63 := by simpa using ha
    have h2 : b < 2 ^ 63 := by simpa using hb
    have := Nat.or_lt_two_pow h1 h2
    simpa using this)

theorem shr_nat (a i : Nat) (ha : a < 9223372036854775808) : shrA .i64 a i = ((a >>> i : Nat) : Int) := by
  have e : shrA .i64 (a : Int) (i : Int) = (a : Int).fdiv (2 ^ (min i 64)) := by
    unfold shrA; simp [IntKind.bits]
  rw [e, Nat.shiftRight_eq_div_pow]
  have h2 : ((2 : Int) ^ (min i 64)) = ((2 ^ (min i 64) : Nat) : Int) := by simp
  rw [h2, Int.fdiv_eq_ediv_of_nonneg _ (Int.natCast_nonneg _), ← Int.natCast_ediv]
  congr 1
  rcases Nat.lt_or_ge i 64 with h | h
  · rw [Nat.min_eq_left (by omega)]
  · rw [Nat.min_eq_right h]
    have h64 : a < 2 ^ 64 := by have : (2:Nat) ^ 64 = 18446744073709551616 := by decide
                                omega
    rw [Nat.div_eq_of_lt h64, Nat.div_eq_of_lt (Nat.lt_of_lt_of_le h64 (Nat.pow_le_pow_right (by omega) h))]

theorem shl_nat (a i : Nat) (hi : i ≤ 62) (ha : a * 2 ^ i < 9223372036854775808) : shlA .i64 a i = ((a * 2 ^ i : Nat) : Int) := by
  have e : shlA .i64 (a : Int) (i : Int) = IntKind.i64.wrap ((a : Int) * 2 ^ (min i 64)) := by
    unfold shlA; simp [IntKind.bits]
  rw [e, Nat.min_eq_left (by omega)]
  have h2 : ((a : Int) * (2 : Int) ^ i) = ((a * 2 ^ i : Nat) : Int) := by simp
  rw [h2]
  exact wrap_nat _ ha

/-- Is bit i there? -/
theorem bit_test (a i : Nat) (ha : a < 9223372036854775808) : (bitsA .and .i64 (shrA .i64 a i) 1 == 1) = a.testBit i := by
  rw [shr_nat a i ha]
  have h1 : a >>> i < 9223372036854775808 := Nat.lt_of_le_of_lt (Nat.shiftRight_le a i) ha
  have := land_nat (a >>> i) 1 h1 (by omega)
  rw [show ((1 : Int)) = ((1 : Nat) : Int) from rfl, this]
  rw [Nat.testBit]
  simp only [Nat.and_one_is_mod, Nat.one_and_eq_mod_two]
  generalize a >>> i = q
  have hq : q % 2 = 0 ∨ q % 2 = 1 := by omega
  rcases hq with h | h <;> simp [h]

theorem pow_lt62 (i : Nat) (h : i ≤ 62) : 2 ^ i < 9223372036854775808 := by
  have : 2 ^ i ≤ 2 ^ 62 := Nat.pow_le_pow_right (by omega) h
  have h2 : (2 : Nat) ^ 62 = 4611686018427387904 := by decide
  omega

theorem one_shl (i : Nat) (h : i ≤ 62) : shlA .i64 1 i = ((2 ^ i : Nat) : Int) := by
  have := shl_nat 1 i h (by rw [Nat.one_mul]; exact pow_lt62 i h)
  rw [Nat.one_mul] at this
  exact this
end Go.Abs
end

section
/- Plain laws: the first claims, in order, are those of the fair shares. -/
set_option linter.unusedVariables false
namespace Go.Abs.Farm

/-- A claim comes before another one. -/
def Bef (cl : List Int) (a b : Int × Int) : Prop := at0 cl b.1 * a.2 < at0 cl a.1 * b.2 ∨ at0 cl b.1 * a.2 = at0 cl a.1 * b.2 ∧ (a.1 < b.1 ∨ a.1 = b.1 ∧ a.2 < b.2)
theorem cmpI_neg {x y : Int} : cmpI x y < 0 ↔ x < y := by unfold cmpI; split <;> (try split) <;> omega
theorem cmpI_zero {x y : Int} : cmpI x y = 0 ↔ x = y := by unfold cmpI; split <;> (try split) <;> omega
theorem cmp_bef (cl : List Int) (a b : Int × Int) : cmpC cl a b < 0 ↔ Bef cl a b := by
  unfold cmpC Bef moreC
  by_cases h : cmpI (at0 cl b.1 * a.2) (at0 cl a.1 * b.2) = 0
  · rw [if_neg (by omega)]
    have h := cmpI_zero.1 h
    by_cases h2 : cmpI a.1 b.1 = 0
    · rw [if_neg (by omega)]
      have h2 := cmpI_zero.1 h2
      rw [cmpI_neg]; omega
    · rw [if_pos h2, cmpI_neg]
      have h2 := mt cmpI_zero.2 h2
      omega
  · rw [if_pos h, cmpI_neg]
    have h := mt cmpI_zero.2 h
    omega
theorem bef_irr (cl : List Int) (a : Int × Int) : ¬ Bef cl a a := by unfold Bef; omega
theorem cross {x y z a b c : Int} (hb : 0 < b) (ha : 0 < a) (hc : 0 < c) (h1 : y * a ≤ x * b) (h2 : z * b ≤ y * c) : z * a ≤ x * c ∧ (y * a < x * b ∨ z * b < y * c → z * a < x * c) := by
  have e1 : y * a * c ≤ x * b * c := Int.mul_le_mul_of_nonneg_right h1 (by omega)
  have e2 : z * b * a ≤ y * c * a := Int.mul_le_mul_of_nonneg_right h2 (by omega)
  have k1 : y * a * c = y * c * a := by rw [Int.mul_assoc, Int.mul_comm a c, ← Int.mul_assoc]
  have k2 : z * b * a = b * (z * a) := by rw [Int.mul_comm z b, Int.mul_assoc]
  have k3 : x * b * c = b * (x * c) := by rw [Int.mul_comm x b, Int.mul_assoc]
  have e3 : b * (z * a) ≤ b * (x * c) := by omega
  refine ⟨Int.le_of_mul_le_mul_left e3 hb, fun h => ?_⟩
  have e4 : b * (z * a) < b * (x * c) := by
    rcases h with h | h
    · have : y * a * c < x * b * c := Int.mul_lt_mul_of_pos_right h hc
      omega
    · have : z * b * a < y * c * a := Int.mul_lt_mul_of_pos_right h ha
      omega
  exact Int.lt_of_mul_lt_mul_left e4 (by omega)
theorem bef_tr {cl : List Int} {a b c : Int × Int} (ha : 0 < a.2) (hb : 0 < b.2) (hc : 0 < c.2) (h1 : Bef cl a b) (h2 : Bef cl b c) : Bef cl a c := by
  unfold Bef at *
  have h := cross (x := at0 cl a.1) (y := at0 cl b.1) (z := at0 cl c.1) hb ha hc (by omega) (by omega)
  rcases h1 with h1 | ⟨h1, h3⟩
  · left; exact h.2 (.inl h1)
  · rcases h2 with h2 | ⟨h2, h4⟩
    · left; exact h.2 (.inr h2)
    · have h5 := cross (x := at0 cl c.1) (y := at0 cl b.1) (z := at0 cl a.1) hb hc ha (by omega) (by omega)
      omega
theorem bef_total {cl : List Int} {a b : Int × Int} (h : a ≠ b) : Bef cl a b ∨ Bef cl b a := by
  unfold Bef
  by_cases e1 : a.1 = b.1
  · have e2 : a.2 ≠ b.2 := fun e2 => h (Prod.ext e1 e2)
    omega
  · omega

/-! ### the farm that gets the next coin -/
theorem next_spec {cl s : List Int} (hs : ∀ i : Nat, 0 ≤ s.getD i 0) : ∀ n, (∀ b, b = (List.range n).foldl (nextStep cl s) 0 → (0 < n → b < n) ∧ (n = 0 → b = 0) ∧ ∀ j, j < n → j ≠ b → Bef cl ((b : Int), s.getD b 0 + 1) ((j : Int), s.getD j 0 + 1)) := by
  intro n
  induction n with
  | zero => rintro b rfl; exact ⟨fun h => absurd h (Nat.not_lt_zero _), fun _ => rfl, fun j hj => absurd hj (Nat.not_lt_zero _)⟩
  | succ n ih =>
    rintro b' rfl
    rw [List.range_succ, List.foldl_append, List.foldl_cons, List.foldl_nil]
    obtain ⟨h1, h0, h2⟩ := ih _ rfl
    generalize (List.range n).foldl (nextStep cl s) 0 = b at h1 h0 h2 ⊢
    have hp : ∀ i : Nat, 0 < s.getD i 0 + 1 := fun i => by have := hs i; omega
    have ea : ∀ i : Nat, at0 cl (i : Int) = cl.getD i 0 := fun i => by unfold at0; rw [Int.toNat_natCast]
    unfold nextStep
    by_cases hc : cl.getD n 0 * (s.getD b 0 + 1) > cl.getD b 0 * (s.getD n 0 + 1)
    · rw [if_pos hc]
      have hnb : Bef cl ((n : Int), s.getD n 0 + 1) ((b : Int), s.getD b 0 + 1) := by
        unfold Bef; left
        show at0 cl (b : Int) * (s.getD n 0 + 1) < at0 cl (n : Int) * (s.getD b 0 + 1)
        rw [ea, ea]; exact hc
      refine ⟨fun _ => Nat.lt_succ_self _, fun h => by omega, fun j hj hne => ?_⟩
      by_cases hjb : j = b
      · subst hjb; exact hnb
      · exact bef_tr (hp n) (hp b) (hp j) hnb (h2 j (by omega) hjb)
    · rw [if_neg hc]
      refine ⟨fun _ => ?_, fun h => by omega, fun j hj hne => ?_⟩
      · rcases Nat.eq_zero_or_pos n with h | h
        · have := h0 h; omega
        · have := h1 h; omega
      · rcases Nat.lt_or_ge j n with h | h
        · exact h2 j h hne
        · obtain rfl : j = n := by omega
          have hbn : b < j := by
            rcases Nat.eq_zero_or_pos j with h' | h'
            · have := h0 h'; omega
            · exact h1 h'
          unfold Bef
          show at0 cl (j : Int) * (s.getD b 0 + 1) < at0 cl (b : Int) * (s.getD j 0 + 1) ∨ at0 cl (j : Int) * (s.getD b 0 + 1) = at0 cl (b : Int) * (s.getD j 0 + 1) ∧ ((b : Int) < (j : Int) ∨ (b : Int) = (j : Int) ∧ s.getD b 0 + 1 < s.getD j 0 + 1)
          rw [ea, ea]
          omega
theorem nextOf_spec {cl s : List Int} (hs : ∀ i : Nat, 0 ≤ s.getD i 0) (h : 0 < cl.length) : nextOf cl s < cl.length ∧ ∀ j, j < cl.length → j ≠ nextOf cl s → Bef cl ((nextOf cl s : Int), s.getD (nextOf cl s) 0 + 1) ((j : Int), s.getD j 0 + 1) := by
  obtain ⟨h1, _, h2⟩ := next_spec (cl := cl) hs cl.length _ rfl
  exact ⟨h1 h, h2⟩

theorem fairUp_len (cl : List Int) : ∀ n, (fairUp cl n).length = cl.length
  | 0 => by simp [fairUp]
  | n + 1 => by simp [fairUp, fairUp_len cl n]
theorem fairUp_get (cl : List Int) : ∀ n (i : Nat), 0 ≤ (fairUp cl n).getD i 0 ∧ (fairUp cl n).getD i 0 ≤ (n : Int)
  | 0, i => by
    unfold fairUp
    rw [List.getD_eq_getElem?_getD, List.getElem?_replicate]
    split <;> simp
  | n + 1, i => by
    have h := fairUp_get cl n
    unfold fairUp
    rw [List.getD_eq_getElem?_getD, List.getElem?_set]
    split
    · rename_i e
      subst e
      have := h (nextOf cl (fairUp cl n))
      rw [List.getD_eq_getElem?_getD] at this ⊢
      split <;> simp <;> omega
    · have := h i
      rw [List.getD_eq_getElem?_getD] at this
      omega
theorem fairUp_next {cl : List Int} (h : 0 < cl.length) (n : Nat) (i : Nat) : (fairUp cl (n + 1)).getD i 0 = if i = nextOf cl (fairUp cl n) then (fairUp cl n).getD i 0 + 1 else (fairUp cl n).getD i 0 := by
  have hs := fun i => (fairUp_get cl n i).1
  obtain ⟨h1, _⟩ := nextOf_spec hs h
  rw [fairUp, List.getD_eq_getElem?_getD, List.getElem?_set]
  by_cases e : nextOf cl (fairUp cl n) = i
  · subst e
    rw [if_pos rfl, if_pos (by rw [fairUp_len]; exact h1), if_pos rfl]; rfl
  · rw [if_neg e, if_neg (fun e' => e e'.symm), List.getD_eq_getElem?_getD]

/-! ### the claims in order -/
theorem allC_mem {cl : List Int} {coins : Int} {a : Int × Int} : a ∈ allC cl coins ↔ 0 ≤ a.1 ∧ a.1 < (cl.length : Int) ∧ 1 ≤ a.2 ∧ a.2 ≤ coins := by
  unfold allC
  simp only [List.mem_flatMap, List.mem_map, List.mem_range]
  constructor
  · rintro ⟨i, hi, n, hn, rfl⟩
    refine ⟨?_, ?_, ?_, ?_⟩
    · show (0 : Int) ≤ (i : Int); omega
    · show (i : Int) < _; omega
    · show (1 : Int) ≤ (n : Int) + 1; omega
    · show (n : Int) + 1 ≤ _; omega
  · rintro ⟨h1, h2, h3, h4⟩
    exact ⟨a.1.toNat, by omega, (a.2 - 1).toNat, by omega, Prod.ext (by show ((a.1.toNat : Nat) : Int) = a.1; omega) (by show (((a.2 - 1).toNat : Nat) : Int) + 1 = a.2; omega)⟩
theorem allC_len (cl : List Int) (coins : Int) : (allC cl coins).length = cl.length * coins.toNat := by
  unfold allC
  rw [List.length_flatMap]
  have : (List.range cl.length).map (fun i : Nat => ((List.range coins.toNat).map (fun n : Nat => ((i : Int), (n : Int) + 1))).length) = (List.range cl.length).map (fun _ => coins.toNat) := List.map_congr_left (fun i _ => by simp)
  rw [this, List.map_const', List.sum_replicate_nat, List.length_range]
theorem allC_nodup (cl : List Int) (coins : Int) : (allC cl coins).Nodup := by
  unfold allC
  rw [List.nodup_iff_pairwise_ne, List.pairwise_flatMap]
  refine ⟨fun i _ => ?_, ?_⟩
  · rw [List.pairwise_map]
    exact (List.pairwise_lt_range).imp (fun h e => by have := (Prod.mk.injEq .. ▸ e : _ ∧ _).2; omega)
  · refine (List.pairwise_lt_range).imp (fun h x hx y hy e => ?_)
    obtain ⟨n, _, rfl⟩ := List.mem_map.1 hx
    obtain ⟨m, _, rfl⟩ := List.mem_map.1 hy
    have := congrArg Prod.fst e
    simp only at this
    omega
theorem claims_perm (cl : List Int) (coins : Int) : (claimsOf cl coins).Perm (allC cl coins) := List.mergeSort_perm _ _
/-- What holds of a list of all claims that is in order: place by place its claims are those of the fair shares. -/
theorem sorted_fair {cl : List Int} (h0 : 0 < cl.length) (hcl : ∀ i : Nat, 0 ≤ cl.getD i 0) {coins : Int} {S : List (Int × Int)} (hp : S.Perm (allC cl coins)) (hs : S.Pairwise (Bef cl)) :
    ∀ n : Nat, (n : Int) ≤ coins → (∀ a, a ∈ S.take n ↔ 0 ≤ a.1 ∧ a.1 < (cl.length : Int) ∧ 1 ≤ a.2 ∧ a.2 ≤ (fairUp cl n).getD a.1.toNat 0) ∧
      ∀ h : n < S.length, (n : Int) < coins → S[n] = ((nextOf cl (fairUp cl n) : Int), (fairUp cl n).getD (nextOf cl (fairUp cl n)) 0 + 1) := by
  have hmem : ∀ a, a ∈ S ↔ 0 ≤ a.1 ∧ a.1 < (cl.length : Int) ∧ 1 ≤ a.2 ∧ a.2 ≤ coins := fun a => by rw [hp.mem_iff, allC_mem]
  have hlen : S.length = cl.length * coins.toNat := by rw [hp.length_eq, allC_len]
  have hpw := List.pairwise_iff_getElem.1 hs
  -- the second from the first
  have second : ∀ n : Nat, (n : Int) ≤ coins → (∀ a, a ∈ S.take n ↔ 0 ≤ a.1 ∧ a.1 < (cl.length : Int) ∧ 1 ≤ a.2 ∧ a.2 ≤ (fairUp cl n).getD a.1.toNat 0) →
      ∀ h : n < S.length, (n : Int) < coins → S[n] = ((nextOf cl (fairUp cl n) : Int), (fairUp cl n).getD (nextOf cl (fairUp cl n)) 0 + 1) := by
    intro n hn hT h hc
    have hg := fairUp_get cl n
    obtain ⟨hb, hbest⟩ := nextOf_spec (fun i => (hg i).1) h0
    generalize hq : nextOf cl (fairUp cl n) = q at hb hbest ⊢
    -- that claim stands in S, not before n
    have hin : (((q : Nat) : Int), (fairUp cl n).getD q 0 + 1) ∈ S := by
      rw [hmem]
      have := hg q
      exact ⟨by show (0 : Int) ≤ (q : Int); omega, by show (q : Int) < _; omega, by show 1 ≤ (fairUp cl n).getD q 0 + 1; omega, by show (fairUp cl n).getD q 0 + 1 ≤ coins; omega⟩
    obtain ⟨j, hj, ej⟩ := List.getElem_of_mem hin
    have hjn : n ≤ j := by
      rcases Nat.lt_or_ge j n with h' | h'
      · exfalso
        have : S[j] ∈ S.take n := by rw [List.mem_take_iff_getElem]; exact ⟨j, by omega, rfl⟩
        rw [ej, hT] at this
        have := this.2.2.2
        simp only [Int.toNat_natCast] at this
        omega
      · exact h'
    rcases Nat.eq_or_lt_of_le hjn with e | hlt
    · subst e; exact ej
    · exfalso
      have hnj := hpw n j h hj hlt
      rw [ej] at hnj
      -- S[n] is not before it
      have hn1 := (hmem S[n]).1 (List.getElem_mem h)
      have hn2 : ¬ S[n] ∈ S.take n := by
        intro hm
        obtain ⟨i, hi, e⟩ := List.mem_take_iff_getElem.1 hm
        have := hpw i n (by omega) h (by omega)
        rw [e] at this
        exact bef_irr cl _ this
      rw [hT] at hn2
      have hi := (hg S[n].1.toNat)
      have hgt : (fairUp cl n).getD S[n].1.toNat 0 + 1 ≤ S[n].2 := by omega
      have e1 : ((S[n].1.toNat : Nat) : Int) = S[n].1 := by omega
      have hfirst : (((S[n].1.toNat : Nat) : Int), (fairUp cl n).getD S[n].1.toNat 0 + 1) = S[n] ∨ Bef cl (((S[n].1.toNat : Nat) : Int), (fairUp cl n).getD S[n].1.toNat 0 + 1) S[n] := by
        rcases Int.lt_or_eq_of_le hgt with h3 | h3
        · right
          have hcl := hcl S[n].1.toNat
          unfold Bef
          show at0 cl S[n].1 * ((fairUp cl n).getD S[n].1.toNat 0 + 1) < at0 cl ((S[n].1.toNat : Nat) : Int) * S[n].2 ∨ at0 cl S[n].1 * ((fairUp cl n).getD S[n].1.toNat 0 + 1) = at0 cl ((S[n].1.toNat : Nat) : Int) * S[n].2 ∧ (((S[n].1.toNat : Nat) : Int) < S[n].1 ∨ ((S[n].1.toNat : Nat) : Int) = S[n].1 ∧ (fairUp cl n).getD S[n].1.toNat 0 + 1 < S[n].2)
          rw [e1]
          have ea : at0 cl S[n].1 = cl.getD S[n].1.toNat 0 := rfl
          rw [ea]
          rcases Int.lt_or_eq_of_le hcl with h4 | h4
          · left; exact Int.mul_lt_mul_of_pos_left h3 h4
          · right; rw [← h4]; exact ⟨by simp, .inr ⟨rfl, h3⟩⟩
        · left
          exact Prod.ext e1 h3
      have hsec : (((q : Nat) : Int), (fairUp cl n).getD q 0 + 1) = (((S[n].1.toNat : Nat) : Int), (fairUp cl n).getD S[n].1.toNat 0 + 1) ∨ Bef cl (((q : Nat) : Int), (fairUp cl n).getD q 0 + 1) (((S[n].1.toNat : Nat) : Int), (fairUp cl n).getD S[n].1.toNat 0 + 1) := by
        by_cases e : S[n].1.toNat = q
        · left; rw [e]
        · right; exact hbest _ (by omega) e
      have p1 : 0 < S[n].2 := by omega
      have p2 : 0 < (fairUp cl n).getD q 0 + 1 := by have := hg q; omega
      have p3 : 0 < (fairUp cl n).getD S[n].1.toNat 0 + 1 := by omega
      have hall : (((q : Nat) : Int), (fairUp cl n).getD q 0 + 1) = S[n] ∨ Bef cl (((q : Nat) : Int), (fairUp cl n).getD q 0 + 1) S[n] := by
        rcases hsec with h5 | h5
        · rw [h5]; exact hfirst
        · right
          rcases hfirst with h6 | h6
          · rw [h6] at h5; exact h5
          · exact bef_tr p2 p3 p1 h5 h6
      rcases hall with h5 | h5
      · rw [h5] at hnj; exact bef_irr cl _ hnj
      · exact bef_irr cl _ (bef_tr p1 p2 p1 hnj h5)
  intro n
  induction n with
  | zero =>
    intro hn
    have hT : ∀ a, a ∈ S.take 0 ↔ 0 ≤ a.1 ∧ a.1 < (cl.length : Int) ∧ 1 ≤ a.2 ∧ a.2 ≤ (fairUp cl 0).getD a.1.toNat 0 := fun a => by
      have := (fairUp_get cl 0 a.1.toNat).2
      constructor
      · intro h; simp at h
      · rintro ⟨_, _, h1, h2⟩; omega
    exact ⟨hT, second 0 hn hT⟩
  | succ n ih =>
    intro hn
    obtain ⟨h1, h2⟩ := ih (by omega)
    have hnl : n < S.length := by
      rw [hlen]
      have : n < coins.toNat := by omega
      exact Nat.lt_of_lt_of_le this (Nat.le_mul_of_pos_left _ h0)
    have e := h2 hnl (by omega)
    have hT : ∀ a, a ∈ S.take (n + 1) ↔ 0 ≤ a.1 ∧ a.1 < (cl.length : Int) ∧ 1 ≤ a.2 ∧ a.2 ≤ (fairUp cl (n + 1)).getD a.1.toNat 0 := fun a => by
      obtain ⟨hb, _⟩ := nextOf_spec (fun i => (fairUp_get cl n i).1) h0
      have hg := fairUp_get cl n (nextOf cl (fairUp cl n))
      rw [List.take_succ_eq_append_getElem hnl, List.mem_append, List.mem_singleton, h1, e, fairUp_next h0]
      constructor
      · rintro (⟨a1, a2, a3, a4⟩ | rfl)
        · refine ⟨a1, a2, a3, ?_⟩
          split <;> omega
        · refine ⟨by show (0 : Int) ≤ ((nextOf cl (fairUp cl n) : Nat) : Int); omega, by show ((nextOf cl (fairUp cl n) : Nat) : Int) < _; omega, by show 1 ≤ (fairUp cl n).getD (nextOf cl (fairUp cl n)) 0 + 1; omega, ?_⟩
          simp only [Int.toNat_natCast, if_true]; omega
      · rintro ⟨a1, a2, a3, a4⟩
        split at a4
        · rename_i ei
          by_cases h5 : a.2 ≤ (fairUp cl n).getD a.1.toNat 0
          · left; exact ⟨a1, a2, a3, h5⟩
          · right
            refine Prod.ext (by show a.1 = ((nextOf cl (fairUp cl n) : Nat) : Int); omega) ?_
            show a.2 = (fairUp cl n).getD (nextOf cl (fairUp cl n)) 0 + 1
            rw [← ei]; omega
        · left; exact ⟨a1, a2, a3, a4⟩
    exact ⟨hT, second (n + 1) hn hT⟩
end Go.Abs.Farm
end

section
/- Plain laws: what tells fair shares; more and less. -/
set_option linter.unusedVariables false
namespace Go.Abs.Farm

/-- Of two claims of one farm. -/
theorem bef_own {cl : List Int} {i : Nat} (hc : 0 ≤ cl.getD i 0) {a b : Int} (h : a ≤ b) : ((i : Int), a) = ((i : Int), b) ∨ Bef cl ((i : Int), a) ((i : Int), b) := by
  rcases Int.lt_or_eq_of_le h with h3 | h3
  · right
    unfold Bef
    show at0 cl (i : Int) * a < at0 cl (i : Int) * b ∨ at0 cl (i : Int) * a = at0 cl (i : Int) * b ∧ ((i : Int) < (i : Int) ∨ (i : Int) = (i : Int) ∧ a < b)
    have ea : at0 cl (i : Int) = cl.getD i 0 := by unfold at0; rw [Int.toNat_natCast]
    rw [ea]
    rcases Int.lt_or_eq_of_le hc with h4 | h4
    · left; exact Int.mul_lt_mul_of_pos_left h3 h4
    · right; rw [← h4]; exact ⟨by simp, .inr ⟨rfl, h3⟩⟩
  · left; rw [h3]

/-- No farm's claim for one coin more comes before a claim of another one that got its coin. -/
structure Stable (cl s : List Int) : Prop where
  len : s.length = cl.length
  pos : ∀ i : Nat, 0 ≤ s.getD i 0
  bef : ∀ i j : Nat, i < cl.length → j < cl.length → i ≠ j → 0 < s.getD j 0 → Bef cl ((j : Int), s.getD j 0) ((i : Int), s.getD i 0 + 1)

theorem fair_stable {cl : List Int} (h0 : 0 < cl.length) (hc : ∀ i : Nat, 0 ≤ cl.getD i 0) : ∀ n, Stable cl (fairUp cl n)
  | 0 => ⟨fairUp_len cl 0, fun i => (fairUp_get cl 0 i).1, fun i j _ _ _ h => by have := (fairUp_get cl 0 j).2; omega⟩
  | n + 1 => by
    have ih := fair_stable h0 hc n
    have hg := fairUp_get cl n
    obtain ⟨hq, hb⟩ := nextOf_spec (fun i => (hg i).1) h0
    refine ⟨fairUp_len cl _, fun i => (fairUp_get cl _ i).1, fun i j hi hj hne hpos => ?_⟩
    rw [fairUp_next h0, fairUp_next h0] at *
    generalize nextOf cl (fairUp cl n) = q at *
    by_cases ej : j = q
    · subst ej
      rw [if_neg hne]
      have e : (if True then (fairUp cl n).getD j 0 + 1 else (fairUp cl n).getD j 0) = (fairUp cl n).getD j 0 + 1 := if_pos trivial
      rw [if_pos rfl]
      exact hb i hi hne
    · rw [if_neg ej] at hpos ⊢
      by_cases ei : i = q
      · subst ei
        rw [if_pos rfl]
        have h1 := ih.bef i j hi hj hne hpos
        rcases bef_own (cl := cl) (i := i) (hc i) (show (fairUp cl n).getD i 0 + 1 ≤ (fairUp cl n).getD i 0 + 1 + 1 by omega) with h2 | h2
        · rw [h2] at h1; exact h1
        · exact bef_tr hpos (by show 0 < (fairUp cl n).getD i 0 + 1; have := (hg i).1; omega) (by show 0 < (fairUp cl n).getD i 0 + 1 + 1; have := (hg i).1; omega) h1 h2
      · rw [if_neg ei]
        exact ih.bef i j hi hj hne hpos

/-! ### sums -/
theorem sum_fold (l : List Int) (a : Int) : l.foldl (fun n x => n + x) a = a + sumL l := by
  unfold sumL
  induction l generalizing a with
  | nil => simp
  | cons x l ih => simp only [List.foldl_cons]; rw [ih (a + x), ih (0 + x)]; omega
theorem sum_cons (x : Int) (l : List Int) : sumL (x :: l) = x + sumL l := by
  show List.foldl _ (0 + x) l = _
  rw [sum_fold]; omega
theorem sum_set : ∀ (l : List Int) (i : Nat) (v : Int), i < l.length → sumL (l.set i v) = sumL l - l.getD i 0 + v
  | x :: l, 0, v, _ => by simp only [List.set_cons_zero, sum_cons, List.getD_cons_zero]; omega
  | x :: l, i + 1, v, h => by
    simp only [List.set_cons_succ, sum_cons, List.getD_cons_succ]
    rw [sum_set l i v (by simpa using h)]; omega
theorem sum_le : ∀ (a b : List Int), a.length = b.length → (∀ i : Nat, a.getD i 0 ≤ b.getD i 0) → sumL a ≤ sumL b
  | [], [], _, _ => Int.le_refl _
  | x :: a, y :: b, hl, h => by
    have h0 := h 0
    have := sum_le a b (by simpa using hl) (fun i => by have := h (i + 1); simpa using this)
    simp only [sum_cons, List.getD_cons_zero] at *
    omega
theorem fair_sum {cl : List Int} (h0 : 0 < cl.length) : ∀ n, sumL (fairUp cl n) = (n : Int)
  | 0 => by
    unfold fairUp
    generalize cl.length = m
    induction m with
    | zero => rfl
    | succ m ih => rw [List.replicate_succ, sum_cons, ih]; rfl
  | n + 1 => by
    obtain ⟨hq, _⟩ := nextOf_spec (cl := cl) (fun i => (fairUp_get cl n i).1) h0
    rw [fairUp, sum_set _ _ _ (by rw [fairUp_len]; exact hq), fair_sum h0 n]; omega
/-- If one has less somewhere, and as much together, it has more elsewhere. -/
theorem more_else {a b : List Int} (hl : a.length = b.length) (hs : sumL a = sumL b) {i : Nat} (h : a.getD i 0 < b.getD i 0) : ∃ k : Nat, k < a.length ∧ k ≠ i ∧ b.getD k 0 < a.getD k 0 := by
  rcases Classical.em (∃ k : Nat, k < a.length ∧ k ≠ i ∧ b.getD k 0 < a.getD k 0) with h1 | h1
  · exact h1
  exfalso
  have hi : i < a.length := by
    rcases Nat.lt_or_ge i a.length with h2 | h2
    · exact h2
    · rw [List.getD_eq_getElem?_getD, List.getD_eq_getElem?_getD, List.getElem?_eq_none h2, List.getElem?_eq_none (by omega)] at h; simp at h
  have := sum_le (a.set i (b.getD i 0)) b (by simpa using hl) (fun k => by
    rcases Nat.lt_or_ge k a.length with h2 | h2
    · by_cases e : i = k
      · subst e
        rw [List.getD_eq_getElem?_getD, List.getElem?_set, if_pos rfl, if_pos h2]; exact Int.le_refl _
      · rw [List.getD_eq_getElem?_getD, List.getElem?_set, if_neg e, ← List.getD_eq_getElem?_getD]
        have := mt (fun h3 => (⟨k, h2, fun e' => e e'.symm, h3⟩ : ∃ k : Nat, k < a.length ∧ k ≠ i ∧ b.getD k 0 < a.getD k 0)) h1
        omega
    · rw [List.getD_eq_getElem?_getD, List.getElem?_eq_none (by simpa using h2), List.getD_eq_getElem?_getD, List.getElem?_eq_none (by omega)]
      exact Int.le_refl _)
  rw [sum_set a i _ hi] at this
  omega

/-- One farm with no less, all others with no more: its share is no less. -/
theorem stable_more {cl cl' s s' : List Int} (hcl : ∀ i : Nat, 0 ≤ cl.getD i 0) (hcl' : ∀ i : Nat, 0 ≤ cl'.getD i 0) (hl : cl'.length = cl.length) (h1 : Stable cl s) (h2 : Stable cl' s') (hs : sumL s = sumL s') {i : Nat} (hi : i < cl.length)
    (hm : cl.getD i 0 ≤ cl'.getD i 0) (ho : ∀ k : Nat, k ≠ i → cl'.getD k 0 ≤ cl.getD k 0) : s.getD i 0 ≤ s'.getD i 0 := by
  refine Int.not_lt.1 (fun hlt => ?_)
  obtain ⟨k, hk, hki, hgt⟩ := more_else (a := s') (b := s) (by rw [h1.len, h2.len, hl]) hs.symm hlt
  have hk1 : k < cl.length := by rw [h2.len, hl] at hk; exact hk
  have b1 := h1.bef k i hk1 hi hki (by have := h2.pos i; omega)
  have b2 := h2.bef i k (by omega) (by omega) (fun e => hki e.symm) (by have := h1.pos k; omega)
  have ea : ∀ (c : List Int) (j : Nat), at0 c (j : Int) = c.getD j 0 := fun c j => by unfold at0; rw [Int.toNat_natCast]
  unfold Bef at b1 b2
  simp only [ea] at b1 b2
  have c1 := hcl i
  have c2 := hcl k
  have c3 := hcl' i
  have c4 := hcl' k
  have hok := ho k hki
  have p1 := h1.pos k
  have p2 := h2.pos i
  generalize s.getD i 0 = x at *
  generalize s.getD k 0 = y at *
  generalize s'.getD i 0 = x' at *
  generalize s'.getD k 0 = y' at *
  generalize cl.getD i 0 = a at *
  generalize cl.getD k 0 = b at *
  generalize cl'.getD i 0 = a' at *
  generalize cl'.getD k 0 = b' at *
  -- a' (y + 1) <= a' y' <= b' (x' + 1) <= b x <= a (y + 1) <= a' (y + 1)
  have e1 : a' * (y + 1) ≤ a' * y' := Int.mul_le_mul_of_nonneg_left (by omega) c3
  have e2 : b' * (x' + 1) ≤ b * x := Int.mul_le_mul hok (by omega) (by omega) c2
  have e3 : a * (y + 1) ≤ a' * (y + 1) := Int.mul_le_mul_of_nonneg_right hm (by omega)
  omega
/-- Shares that are stable, as many together, are one. -/
theorem stable_unique {cl s s' : List Int} (hcl : ∀ i : Nat, 0 ≤ cl.getD i 0) (h1 : Stable cl s) (h2 : Stable cl s') (hs : sumL s = sumL s') : s = s' := by
  apply List.ext_getElem
  · rw [h1.len, h2.len]
  · intro i hi hi'
    have hic : i < cl.length := by rw [← h1.len]; exact hi
    have a := stable_more hcl hcl rfl h1 h2 hs hic (Int.le_refl _) (fun _ _ => Int.le_refl _)
    have b := stable_more hcl hcl rfl h2 h1 hs.symm hic (Int.le_refl _) (fun _ _ => Int.le_refl _)
    rw [List.getD_eq_getElem?_getD, List.getD_eq_getElem?_getD, List.getElem?_eq_getElem hi, List.getElem?_eq_getElem hi'] at a b
    simp only [Option.getD_some] at a b
    omega
end Go.Abs.Farm
end

section
/- The farm's functions keep their contracts: first part. -/
open Go.Proofs
set_option maxRecDepth 100000
set_option linter.unusedVariables false
namespace Go.Abs.Farm
theorem hmix : Try.prog.follows .mixedOrders = true := by kernel_rfl

theorem take_succ_eq {α : Type} (a b : List α) (i : Nat) (ha : i < a.length) (hb : i < b.length) (h : a.take i = b.take i) : a.take (i + 1) = b.take (i + 1) ↔ a[i] = b[i] := by
  have e1 := List.take_succ_eq_append_getElem ha
  have e2 := List.take_succ_eq_append_getElem hb
  rw [e1, e2, h]
  simp only [List.append_cancel_left_eq, List.cons.injEq, and_true]

theorem getD_at {α : Type} {l : List α} {i : Nat} {d : α} (h : i < l.length) : l.getD i d = l[i] := by
  rw [List.getD_eq_getElem?_getD, List.getElem?_eq_getElem h]; rfl

theorem k16 (hG : Good Try.prog (envOf [])) : v16.Kept Try.prog 16 := by
  rintro ⟨pr, cl, ⟨⟩⟩ hpre k hk
  change Int at pr
  change List Int at cl
  refine aspec hmix hG Try.func16 tx16 (Eq.mpr (eq16 pr cl k) ?_)
  replace hk : k (.bool (great cl)) [] := hk
  unfold vc16
  have : decide (((cl.length : Nat) : Int) > 14) = great cl := by simp only [great, decide_eq_decide]; omega
  rwa [this]

theorem k37 (hG : Good Try.prog (envOf [])) : v37.Kept Try.prog 37 := by
  rintro ⟨pr, rs, ⟨⟩⟩ hpre k hk
  change Int at pr
  change List (Int × Int) at rs
  refine aspec hmix hG Try.func37 tx37 (Eq.mpr (eq37 pr rs k) ?_)
  replace hk : k (.bool (wide rs)) [] := hk
  unfold vc37
  have : decide (((rs.length : Nat) : Int) > 14) = wide rs := by simp only [wide, decide_eq_decide]; omega
  rwa [this]

theorem k28 (hG : Good Try.prog (envOf [])) : v28.Kept Try.prog 28 := by
  rintro ⟨a, b, ⟨⟩⟩ hpre k hk
  change List Int at a b
  refine aspec hmix hG Try.func28 tx28 (Eq.mpr (eq28 a b k) ?_)
  replace hk : k (.bool (eqL a b)) [] := hk
  unfold vc28
  have hl0 : a.length ≤ 1152921504606846976 := hpre.1
  rw [br_bne]
  refine ⟨fun h => ?_, fun h => ?_⟩
  · have : eqL a b = false := by
      simp only [eqL, decide_eq_false_iff_not]
      intro e; subst e; exact h rfl
    rwa [this] at hk
  · have hl : a.length = b.length := by omega
    refine Loop.upto (fun i => (a, b, (i : Int), ())) (fun i => a.take i = b.take i) a.length rfl (by simp) ?_ ?_
    · intro i K hi hp hK
      dsimp only
      rw [br_decide]
      refine ⟨fun _ => ?_, fun h => absurd hi (by omega)⟩
      try simp only [Int.toNat_natCast]
      refine ⟨⟨by omega, by omega⟩, ⟨by omega, by omega⟩, ?_⟩
      rw [br_bne]
      refine ⟨fun h => ?_, fun h => ⟨fits64 (by omega) (by omega), hK ?_⟩⟩
      · have : eqL a b = false := by
          simp only [eqL, decide_eq_false_iff_not]
          intro e; subst e; exact h rfl
        rwa [this] at hk
      · exact (take_succ_eq a b i hi (by omega) hp).2 h
    · intro K hp
      dsimp only
      rw [br_decide]
      refine ⟨fun h => absurd h (by omega), fun _ => ?_⟩
      have : eqL a b = true := by
        rw [List.take_length, hl, List.take_length] at hp
        simp [eqL, hp]
      rwa [this] at hk


theorem k49 (hG : Good Try.prog (envOf [])) : v49.Kept Try.prog 49 := by
  rintro ⟨l, ⟨⟩⟩ hpre k hk
  change List Int at l
  refine aspec hmix hG Try.func49 tx49 (Eq.mpr (eq49 l k) ?_)
  replace hk : k (.imm (.int .i64) l false) [] := hk
  unfold vc49
  exact hk

theorem k52 (hG : Good Try.prog (envOf [])) : v52.Kept Try.prog 52 := by
  rintro ⟨pr, l, ⟨⟩⟩ hpre k hk
  change Int at pr
  change List Int at l
  refine aspec hmix hG Try.func52 tx52 (Eq.mpr (eq52 pr l k) ?_)
  replace hk : k (.agg [rI pr, .imm (.int .i64) l false]) [] := hk
  unfold vc52
  exact hk

theorem k53 (hG : Good Try.prog (envOf [])) : v53.Kept Try.prog 53 := by
  rintro ⟨num, den, ⟨⟩⟩ hpre k hk
  change Int at num den
  refine aspec hmix hG Try.func53 tx53 (Eq.mpr (eq53 num den k) ?_)
  replace hk : k (two num den) [] := hk
  unfold vc53
  exact hk

theorem indexOf_none {α : Type} (p : α → Bool) : ∀ (l : List α), (∀ x ∈ l, p x = false) → indexOf p l = -1
  | [], _ => rfl
  | x :: l, h => by
    unfold indexOf
    rw [h x (by simp), indexOf_none p l (fun y hy => h y (List.mem_cons_of_mem _ hy))]
    simp
theorem indexOf_some {α : Type} (p : α → Bool) : ∀ (l : List α) (i : Nat) (hi : i < l.length), (∀ x ∈ l.take i, p x = false) → p l[i] = true → indexOf p l = (i : Int)
  | x :: l, 0, _, _, h => by
    unfold indexOf
    simp only [List.getElem_cons_zero] at h
    rw [h]; rfl
  | x :: l, i + 1, hi, h1, h2 => by
    unfold indexOf
    rw [h1 x (by simp), indexOf_some p l i (by simpa using hi) (fun y hy => h1 y (by simp [hy])) (by simpa using h2)]
    simp only [Bool.false_eq_true, if_false]
    rw [if_neg (by omega)]
    omega
theorem indexOf_ge {α : Type} (p : α → Bool) (l : List α) : decide (indexOf p l ≥ 0) = l.any p := by
  induction l with
  | nil => simp [indexOf]
  | cons x l ih =>
    unfold indexOf
    rw [List.any_cons]
    cases hx : p x with
    | true => simp
    | false =>
      simp only [Bool.false_eq_true, if_false, Bool.false_or]
      rw [← ih]
      by_cases h : indexOf p l < 0
      · rw [if_pos h]
        have : ¬ indexOf p l ≥ 0 := by omega
        simp [this]
      · rw [if_neg h]
        have h1 : indexOf p l ≥ 0 := by omega
        have h2 : indexOf p l + 1 ≥ 0 := by omega
        simp [h1, h2]

theorem take_all_succ {α : Type} (p : α → Bool) (l : List α) (i : Nat) (hi : i < l.length) (h : ∀ x ∈ l.take i, p x = false) (h2 : p l[i] = false) : ∀ x ∈ l.take (i + 1), p x = false := by
  intro x hx
  rw [List.take_succ_eq_append_getElem hi, List.mem_append] at hx
  rcases hx with hx | hx
  · exact h x hx
  · simp only [List.mem_singleton] at hx; subst hx; exact h2

theorem k78 (hG : Good Try.prog (envOf [])) : v78.Kept Try.prog 78 := by
  rintro ⟨n, lo, hi, ⟨⟩⟩ hpre k hk
  change Int at n lo hi
  refine aspec hmix hG Try.func78 tx78 (Eq.mpr (eq78 n lo hi k) ?_)
  replace hk : k (.bool (outOf lo hi n)) [] := hk
  unfold vc78
  rw [br_false]
  refine ⟨fun h => ?_, fun h => ?_⟩
  · have : outOf lo hi n = decide (n > hi) := by simp only [outOf, decide_eq_decide]; omega
    rwa [this] at hk
  · have : outOf lo hi n = true := by simp [outOf, h]
    rwa [this] at hk

theorem k88 (hG : Good Try.prog (envOf [(78, mkC [v78])])) : v88.Kept Try.prog 88 := by
  rintro ⟨l, lo, hi, ⟨⟩⟩ hpre k hk
  change List Int at l
  change Int at lo hi
  refine aspec hmix hG Try.func88 tx88 (Eq.mpr (eq88 l lo hi k) ?_)
  replace hk : k (rI (indexOf (outOf lo hi) l)) [] := hk
  unfold vc88
  have hl0 : l.length ≤ 1152921504606846976 := hpre
  refine Loop.upto (fun i => (l, lo, hi, ((l.length : Nat) : Int), (i : Int), ())) (fun i => ∀ y ∈ l.take i, outOf lo hi y = false) l.length rfl (by simp) ?_ ?_
  · intro j K_j hj hp_j hK_j
    dsimp only
    rw [br_decide]
    refine ⟨fun _ => ?_, fun h => absurd hj (by omega)⟩
    try simp only [Int.toNat_natCast]
    refine ⟨⟨by omega, by omega⟩, trivial, ?_⟩
    refine br_intro (fun h => ?_) (fun h => ⟨fits64 (by omega) (by omega), hK_j (take_all_succ _ _ _ hj hp_j h)⟩)
    have : indexOf (outOf lo hi) l = (j : Int) := indexOf_some _ l j hj hp_j h
    rwa [this] at hk
  · intro K hp
    dsimp only
    rw [br_decide]
    refine ⟨fun h => absurd h (by omega), fun _ => ?_⟩
    rw [List.take_length] at hp
    have : indexOf (outOf lo hi) l = -1 := indexOf_none _ l hp
    rwa [this] at hk

theorem k77 (hG : Good Try.prog (envOf [(88, mkC [v88])])) : v77.Kept Try.prog 77 := by
  rintro ⟨l, lo, hi, ⟨⟩⟩ hpre k hk
  change List Int at l
  change Int at lo hi
  refine aspec hmix hG Try.func77 tx77 (Eq.mpr (eq77 l lo hi k) ?_)
  replace hk : k (.bool (anyOut lo hi l)) [] := hk
  unfold vc77
  refine ⟨hpre, ?_⟩
  have : decide (indexOf (outOf lo hi) l ≥ 0) = anyOut lo hi l := indexOf_ge _ l
  rwa [this]

theorem k56 (hG : Good Try.prog (envOf [(77, mkC [v77])])) : v56.Kept Try.prog 56 := by
  rintro ⟨lo, hi, l, ⟨⟩⟩ hpre k hk
  change Int at lo hi
  change List Int at l
  refine aspec hmix hG Try.func56 tx56 (Eq.mpr (eq56 lo hi l k) ?_)
  replace hk : k (.bool (Bool.not (anyOut lo hi l))) [] := hk
  unfold vc56
  exact ⟨hpre, hk⟩

theorem anyOut_one (lo hi n : Int) : anyOut lo hi [n] = outOf lo hi n := by simp [anyOut]

theorem k66 (hG : Good Try.prog (envOf [(56, mkC [v56])])) : v66.Kept Try.prog 66 := by
  rintro ⟨pr, n, ⟨⟩⟩ hpre k hk
  change Int at pr n
  refine aspec hmix hG Try.func66 tx66 (Eq.mpr (eq66 pr n k) ?_)
  replace hk : k (rI (sized pr n)) [] := hk
  unfold vc66
  refine ⟨by show (1 : Nat) ≤ big60; decide, ?_⟩
  rw [anyOut_one, anyOut_one, Bool.not_not, Bool.not_not]
  refine br_intro (fun h => ?_) (fun h => ⟨by show (1 : Nat) ≤ big60; decide, br_intro (fun h2 => ?_) (fun h2 => ?_)⟩)
  · have h : pr < 0 ∨ 200 < pr := by simpa [outOf] using h
    have e : sized pr n = 3 := by unfold sized; rw [if_pos h]
    rwa [e] at hk
  · have h : ¬ (pr < 0 ∨ 200 < pr) := by simpa only [outOf, decide_eq_false_iff_not] using h
    have h2 : n < 1 ∨ 8 < n := by simpa [outOf] using h2
    have e : sized pr n = 6 := by unfold sized; rw [if_neg h, if_pos h2]
    rwa [e] at hk
  · have h : ¬ (pr < 0 ∨ 200 < pr) := by simpa only [outOf, decide_eq_false_iff_not] using h
    have h2 : ¬ (n < 1 ∨ 8 < n) := by simpa only [outOf, decide_eq_false_iff_not] using h2
    have e : sized pr n = 0 := by unfold sized; rw [if_neg h, if_neg h2]
    rwa [e] at hk

theorem sum_take {l : List Int} {i : Nat} (h : i < l.length) : sumL (l.take (i + 1)) = sumL (l.take i) + l[i] := by
  rw [List.take_succ_eq_append_getElem h]
  unfold sumL
  rw [List.foldl_append]; rfl
theorem sum_bound {l : List Int} {b : Int} (h : ∀ x ∈ l, 0 ≤ x ∧ x ≤ b) : 0 ≤ sumL l ∧ sumL l ≤ b * (l.length : Int) := by
  induction l with
  | nil => simp [sumL]
  | cons x l ih =>
    obtain ⟨h1, h2⟩ := ih (fun y hy => h y (List.mem_cons_of_mem _ hy))
    obtain ⟨h3, h4⟩ := h x (List.mem_cons_self ..)
    rw [sum_cons]
    simp only [List.length_cons, Int.natCast_add, Int.mul_add]
    omega

theorem k48 (hG : Good Try.prog (envOf [])) : v48.Kept Try.prog 48 := by
  rintro ⟨l, ⟨⟩⟩ hpre k hk
  change List Int at l
  refine aspec hmix hG Try.func48 tx48 (Eq.mpr (eq48 l k) ?_)
  replace hk : k (rI (sumL l)) [] := hk
  unfold vc48
  obtain ⟨hl, hx⟩ := hpre
  have hl : l.length ≤ 20 := hl
  have hx : ∀ x ∈ l, (0 : Int) ≤ x ∧ x ≤ 1000 := hx
  refine Loop.upto (fun i => (l, sumL (l.take i), (i : Int), ())) (fun i => True) l.length rfl trivial ?_ ?_
  · intro i K hi hp hK
    dsimp only
    rw [br_decide]
    refine ⟨fun _ => ?_, fun h => absurd hi (by omega)⟩
    try simp only [Int.toNat_natCast]
    have h1 := sum_bound (l := l.take i) (b := 1000) (fun x hx' => hx x (List.mem_of_mem_take hx'))
    have h2 := hx _ (List.getElem_mem hi)
    have h3 : (l.take i).length ≤ 20 := by simp; omega
    have hK := hK trivial
    rw [sum_take hi] at hK
    exact ⟨⟨by omega, by omega⟩, fits64 (by omega) (by omega), fits64 (by omega) (by omega), hK⟩
  · intro K hp
    dsimp only
    rw [br_decide]
    refine ⟨fun h => absurd h (by omega), fun _ => ?_⟩
    rw [List.take_length]; exact hk

theorem k58 (hG : Good Try.prog (envOf [])) : v58.Kept Try.prog 58 := by
  rintro ⟨l, ⟨⟩⟩ hpre k hk
  change List Int at l
  refine aspec hmix hG Try.func58 tx58 (Eq.mpr (eq58 l k) ?_)
  replace hk : k (rI (sumL l)) [] := hk
  unfold vc58
  obtain ⟨hl, hx⟩ := hpre
  have hl : l.length ≤ 20 := hl
  have hx : ∀ x ∈ l, (0 : Int) ≤ x ∧ x ≤ 1000 := hx
  refine Loop.upto (fun i => (sumL (l.take i), l, ((l.length : Nat) : Int), (i : Int), ())) (fun i => True) l.length rfl trivial ?_ ?_
  · intro i K hi hp hK
    dsimp only
    rw [br_decide]
    refine ⟨fun _ => ?_, fun h => absurd hi (by omega)⟩
    try simp only [Int.toNat_natCast]
    have h1 := sum_bound (l := l.take i) (b := 1000) (fun x hx' => hx x (List.mem_of_mem_take hx'))
    have h2 := hx _ (List.getElem_mem hi)
    have h3 : (l.take i).length ≤ 20 := by simp; omega
    have hK := hK trivial
    rw [sum_take hi] at hK
    exact ⟨⟨by omega, by omega⟩, fits64 (by omega) (by omega), fits64 (by omega) (by omega), hK⟩
  · intro K hp
    dsimp only
    rw [br_decide]
    refine ⟨fun h => absurd h (by omega), fun _ => ?_⟩
    rw [List.take_length]; exact hk

theorem not_any {lo hi : Int} {l : List Int} (h : anyOut lo hi l = false) : ∀ x ∈ l, lo ≤ x ∧ x ≤ hi := by
  intro x hx
  unfold anyOut at h
  rw [List.any_eq_false] at h
  have := h x hx
  simp only [outOf, decide_eq_true_eq] at this
  omega
theorem sized_zero {pr n : Int} (h : sized pr n = 0) : 0 ≤ pr ∧ pr ≤ 200 ∧ 1 ≤ n ∧ n ≤ 8 := by
  unfold sized at h
  split at h
  · omega
  · split at h <;> omega

theorem k26 (hG : Good Try.prog (envOf [(66, mkC [v66]), (56, mkC [v56]), (58, mkC [v58])])) : v26.Kept Try.prog 26 := by
  rintro ⟨pr, cl, ⟨⟩⟩ hpre k hk
  change Int at pr
  change List Int at cl
  refine aspec hmix hG Try.func26 tx26 (Eq.mpr (eq26 pr cl k) ?_)
  replace hk : k (rI (yearErr pr cl)) [] := hk
  unfold vc26
  have hl : cl.length ≤ 14 := hpre
  have hl60 : cl.length ≤ big60 := by simp only [big60]; omega
  refine ⟨trivial, ?_⟩
  rw [br_bne]
  refine ⟨fun h => ?_, fun h => ⟨hl60, ?_⟩⟩
  · have e : yearErr pr cl = sized pr (cl.length : Int) := by unfold yearErr; rw [if_pos h]
    rwa [e] at hk
  rw [Bool.not_not]
  refine br_intro (fun h2 => ?_) (fun h2 => ?_)
  · have e : yearErr pr cl = 3 := by unfold yearErr; rw [if_neg (by omega), if_pos h2]
    rwa [e] at hk
  have hin := not_any h2
  refine ⟨⟨by show cl.length ≤ 20; omega, fun x hx => ⟨(hin x hx).1, by have := (hin x hx).2; omega⟩⟩, ?_⟩
  rw [br_beq]
  refine ⟨fun h3 => ?_, fun h3 => ?_⟩
  · have e : yearErr pr cl = 16 := by unfold yearErr; rw [if_neg (by omega), if_neg (by simp [h2]), if_pos h3]
    rwa [e] at hk
  · have e : yearErr pr cl = 0 := by unfold yearErr; rw [if_neg (by omega), if_neg (by simp [h2]), if_neg h3]
    rwa [e] at hk

theorem any_take {lo hi : Int} {l : List Int} (h : ∀ x ∈ l.take l.length, lo ≤ x ∧ x ≤ hi) : anyOut lo hi l = false := by
  rw [List.take_length] at h
  unfold anyOut
  rw [List.any_eq_false]
  intro x hx
  have := h x hx
  simp only [outOf, decide_eq_true_eq]
  omega
theorem any_at {lo hi : Int} {l : List Int} {i : Nat} (hi' : i < l.length) (h : l[i] < lo ∨ hi < l[i]) : anyOut lo hi l = true := by
  unfold anyOut
  rw [List.any_eq_true]
  exact ⟨_, List.getElem_mem hi', by simpa [outOf] using h⟩
theorem take_in {l : List Int} {i : Nat} (hi : i < l.length) {p : Int → Prop} (h : ∀ x ∈ l.take i, p x) (h2 : p l[i]) : ∀ x ∈ l.take (i + 1), p x := by
  rw [List.take_succ_eq_append_getElem hi]
  intro x hx
  rcases List.mem_append.1 hx with h3 | h3
  · exact h x h3
  · simp at h3; subst h3; exact h2

theorem k27 (hG : Good Try.prog (envOf [(48, mkC [v48])])) : v27.Kept Try.prog 27 := by
  rintro ⟨pr, cl, ⟨⟩⟩ hpre k hk
  change Int at pr
  change List Int at cl
  refine aspec hmix hG Try.func27 tx27 (Eq.mpr (eq27 pr cl k) ?_)
  replace hk : k (rI (yearErr pr cl)) [] := hk
  unfold vc27
  have hl : cl.length ≤ 14 := hpre
  have e3 : (pr < 0 ∨ 200 < pr) → yearErr pr cl = 3 := fun h => by unfold yearErr sized; rw [if_pos h]; rfl
  have e6 : ¬ (pr < 0 ∨ 200 < pr) → ((cl.length : Int) < 1 ∨ 8 < (cl.length : Int)) → yearErr pr cl = 6 := fun h h' => by unfold yearErr sized; rw [if_neg h, if_pos h']; rfl
  rw [br_false]
  refine ⟨fun h1 => ?_, fun h1 => by rw [e3 (by omega)] at hk; exact hk⟩
  rw [br_decide]
  refine ⟨fun h2 => by rw [e3 (by omega)] at hk; exact hk, fun h2 => ?_⟩
  rw [br_false]
  refine ⟨fun h3 => ?_, fun h3 => by rw [e6 (by omega) (by omega)] at hk; exact hk⟩
  rw [br_decide]
  refine ⟨fun h4 => by rw [e6 (by omega) (by omega)] at hk; exact hk, fun h4 => ?_⟩
  have hs : sized pr (cl.length : Int) = 0 := by unfold sized; rw [if_neg (by omega), if_neg (by omega)]
  refine Loop.upto (fun i => ((i : Int), pr, cl, ())) (fun i => ∀ x ∈ cl.take i, (0 : Int) ≤ x ∧ x ≤ 100) cl.length rfl (by simp) ?_ ?_
  · intro i K hi hp hK
    dsimp only
    rw [br_decide]
    refine ⟨fun _ => ?_, fun h => absurd hi (by omega)⟩
    try simp only [Int.toNat_natCast]
    have bad : (cl[i] < 0 ∨ 100 < cl[i]) → yearErr pr cl = 3 := fun h => by unfold yearErr; rw [if_neg (by omega), if_pos (any_at hi h)]
    refine ⟨⟨by omega, by omega⟩, ?_⟩
    rw [br_false]
    refine ⟨fun h5 => ⟨⟨by omega, by omega⟩, ?_⟩, fun h5 => by rw [bad (by omega)] at hk; exact hk⟩
    rw [br_decide]
    exact ⟨fun h6 => by rw [bad (by omega)] at hk; exact hk, fun h6 => ⟨fits64 (by omega) (by omega), hK (take_in hi hp ⟨by omega, by omega⟩)⟩⟩
  · intro K hp
    dsimp only
    rw [br_decide]
    refine ⟨fun h => absurd h (by omega), fun _ => ?_⟩
    have ha := any_take hp
    rw [List.take_length] at hp
    refine ⟨⟨by show cl.length ≤ 20; omega, fun x hx => ⟨(hp x hx).1, by have := (hp x hx).2; omega⟩⟩, ?_⟩
    rw [br_beq]
    refine ⟨fun h5 => ?_, fun h5 => ?_⟩
    · have e : yearErr pr cl = 16 := by unfold yearErr; rw [if_neg (by omega), if_neg (by simp [ha]), if_pos h5]
      rwa [e] at hk
    · have e : yearErr pr cl = 0 := by unfold yearErr; rw [if_neg (by omega), if_neg (by simp [ha]), if_neg h5]
      rwa [e] at hk

theorem k42 (hG : Good Try.prog (envOf [(16, mkC [v16]), (27, mkC [v27])])) : v42.Kept Try.prog 42 := by
  rintro ⟨pr, cl, ⟨⟩⟩ hpre k hk
  change Int at pr
  change List Int at cl
  refine aspec hmix hG Try.func42 tx42 (Eq.mpr (eq42 pr cl k) ?_)
  replace hk : k (.bool (fine pr cl)) [] := hk
  unfold vc42
  refine ⟨trivial, ?_⟩
  rw [br_bt]
  refine ⟨fun h => ?_, fun h => ?_⟩
  · have hg : cl.length ≤ 14 := by simp [great] at h; exact h
    refine ⟨hg, ?_⟩
    have : fine pr cl = (yearErr pr cl == 0) := by simp [fine, h, yeIs]; rfl
    rwa [this] at hk
  · have : fine pr cl = false := by simp [fine, h]
    rwa [this] at hk

theorem k93 (hG : Good Try.prog (envOf [])) : v93.Kept Try.prog 93 := by
  rintro ⟨a, ⟨⟩⟩ hpre k hk
  change Int at a
  refine aspec hmix hG Try.func93 tx93 (Eq.mpr (eq93 a k) ?_)
  replace hk : k (.bool false) [] := hk
  unfold vc93
  have : (a != a) = false := by simp
  first | exact hk | (rw [this]; exact hk)

theorem k94 (hG : Good Try.prog (envOf [])) : v94.Kept Try.prog 94 := by
  rintro ⟨a, ⟨⟩⟩ hpre k hk
  change Int at a
  refine aspec hmix hG Try.func94 tx94 (Eq.mpr (eq94 a k) ?_)
  replace hk : k (.bool false) [] := hk
  unfold vc94
  have : (a != a) = false := by simp
  first | exact hk | (rw [this]; exact hk)

theorem k76 (hG : Good Try.prog (envOf [])) : v76.Kept Try.prog 76 := by
  rintro ⟨a, b, ⟨⟩⟩ hpre k hk
  change Int at a b
  refine aspec hmix hG Try.func76 tx76 (Eq.mpr (eq76 a b k) ?_)
  replace hk : k (.bool (up0 (a, b))) [] := hk
  unfold vc76
  exact hk

theorem k84 (hG : Good Try.prog (envOf [(93, mkC [v93])])) : v84.Kept Try.prog 84 := by
  rintro ⟨a, b, ⟨⟩⟩ hpre k hk
  change Int at a b
  refine aspec hmix hG Try.func84 tx84 (Eq.mpr (eq84 a b k) ?_)
  replace hk : k (rI (cmpI a b)) [] := hk
  unfold vc84
  refine ⟨trivial, trivial, ?_⟩
  rw [br_decide]
  refine ⟨fun h => by have e : cmpI a b = -1 := by (unfold cmpI; rw [if_pos h])
                      rwa [e] at hk, fun h => ?_⟩
  rw [br_decide]
  exact ⟨fun h2 => by have e : cmpI a b = 1 := by (unfold cmpI; rw [if_neg h, if_pos h2])
                      rwa [e] at hk, fun h2 => by have e : cmpI a b = 0 := by (unfold cmpI; rw [if_neg h, if_neg h2])
                                                  rwa [e] at hk⟩

theorem k85 (hG : Good Try.prog (envOf [(94, mkC [v94])])) : v85.Kept Try.prog 85 := by
  rintro ⟨a, b, ⟨⟩⟩ hpre k hk
  change Int at a b
  refine aspec hmix hG Try.func85 tx85 (Eq.mpr (eq85 a b k) ?_)
  replace hk : k (rI (cmpI a b)) [] := hk
  unfold vc85
  refine ⟨trivial, trivial, ?_⟩
  rw [br_decide]
  refine ⟨fun h => by have e : cmpI a b = -1 := by (unfold cmpI; rw [if_pos h])
                      rwa [e] at hk, fun h => ?_⟩
  rw [br_decide]
  exact ⟨fun h2 => by have e : cmpI a b = 1 := by (unfold cmpI; rw [if_neg h, if_pos h2])
                      rwa [e] at hk, fun h2 => by have e : cmpI a b = 0 := by (unfold cmpI; rw [if_neg h, if_neg h2])
                                                  rwa [e] at hk⟩

theorem or_take {l : List Int} {i : Nat} (hi : i < l.length) (h : ∀ x ∈ l.take i, x = 0) (h2 : l[i] ≠ 0) : orI l = l[i] := by
  induction l generalizing i with
  | nil => simp at hi
  | cons x l ih =>
    cases i with
    | zero =>
      have h2 : x ≠ 0 := h2
      show (if x ≠ 0 then x else orI l) = x
      rw [if_pos h2]
    | succ i =>
      have hx := h x (by simp)
      show (if x ≠ 0 then x else orI l) = _
      rw [if_neg (by omega)]
      exact ih (by simpa using hi) (fun y hy => h y (by simp [hy])) h2
theorem or_none {l : List Int} (h : ∀ x ∈ l, x = 0) : orI l = 0 := by
  induction l with
  | nil => rfl
  | cons x l ih =>
    show (if x ≠ 0 then x else orI l) = 0
    rw [if_neg (by have := h x (by simp); omega)]
    exact ih (fun y hy => h y (by simp [hy]))

theorem k83 (hG : Good Try.prog (envOf [])) : v83.Kept Try.prog 83 := by
  rintro ⟨l, ⟨⟩⟩ hpre k hk
  change List Int at l
  refine aspec hmix hG Try.func83 tx83 (Eq.mpr (eq83 l k) ?_)
  replace hk : k (rI (orI l)) [] := hk
  unfold vc83
  have hl : l.length ≤ 1000 := hpre
  refine Loop.upto (fun i => (0, l, ((l.length : Nat) : Int), (i : Int), ())) (fun i => ∀ x ∈ l.take i, x = 0) l.length rfl (by simp) ?_ ?_
  · intro i K hi hp hK
    dsimp only
    rw [br_decide]
    refine ⟨fun _ => ?_, fun h => absurd hi (by omega)⟩
    try simp only [Int.toNat_natCast]
    refine ⟨⟨by omega, by omega⟩, ?_⟩
    rw [br_bne]
    refine ⟨fun h => ?_, fun h => ⟨fits64 (by omega) (by omega), hK (take_in hi hp h)⟩⟩
    rw [or_take hi hp h] at hk
    exact hk
  · intro K hp
    dsimp only
    rw [br_decide]
    refine ⟨fun h => absurd h (by omega), fun _ => ?_⟩
    rw [List.take_length] at hp
    rw [or_none hp] at hk
    exact hk

theorem mul_small {a b : Int} (h1 : 0 ≤ a) (h2 : a ≤ 1000) (h3 : 0 ≤ b) (h4 : b ≤ 1001) : 0 ≤ a * b ∧ a * b ≤ 1001000 := by
  refine ⟨Int.mul_nonneg h1 h3, ?_⟩
  have : a * b ≤ 1000 * 1001 := Int.mul_le_mul h2 h4 h3 (by omega)
  omega

theorem k67 (hG : Good Try.prog (envOf [(85, mkC [v85])])) : v67.Kept Try.prog 67 := by
  rintro ⟨pr, cl, a1, a2, b1, b2, ⟨⟩⟩ hpre k hk
  change Int at pr
  change List Int at cl
  change Int at a1 a2 b1 b2
  refine aspec hmix hG Try.func67 tx67 (Eq.mpr (eq67 pr cl a1 a2 b1 b2 k) ?_)
  replace hk : k (rI (moreI cl a1 a2 b1 b2)) [] := hk
  unfold vc67
  obtain ⟨⟨hl, hx⟩, ha, hb⟩ := hpre
  have hl : cl.length ≤ 20 := hl
  have hx : ∀ x ∈ cl, (0 : Int) ≤ x ∧ x ≤ 1000 := hx
  have ha : 0 ≤ a1 ∧ a1 < (cl.length : Int) ∧ 0 ≤ a2 ∧ a2 ≤ 1000 := ha
  have hb : 0 ≤ b1 ∧ b1 < (cl.length : Int) ∧ 0 ≤ b2 ∧ b2 ≤ 1000 := hb
  have i1 : a1.toNat < cl.length := by omega
  have i2 : b1.toNat < cl.length := by omega
  have x1 := hx _ (List.getElem_mem i1)
  have x2 := hx _ (List.getElem_mem i2)
  have m1 := mul_small x1.1 x1.2 hb.2.2.1 (by omega)
  have m2 := mul_small x2.1 x2.2 ha.2.2.1 (by omega)
  have e : moreI cl a1 a2 b1 b2 = cmpI (cl[a1.toNat] * b2) (cl[b1.toNat] * a2) := by
    unfold moreI moreC at0
    rw [getD_at i1, getD_at i2]
  rw [e] at hk
  exact ⟨⟨ha.1, i1⟩, fits64 (by omega) (by omega), ⟨hb.1, i2⟩, fits64 (by omega) (by omega), trivial, hk⟩

theorem k82 (hG : Good Try.prog (envOf [(67, mkC [v67]), (84, mkC [v84]), (85, mkC [v85]), (83, mkC [v83])])) : v82.Kept Try.prog 82 := by
  rintro ⟨a1, a2, b1, b2, pr, cl, ⟨⟩⟩ hpre k hk
  change Int at a1 a2 b1 b2
  change Int at pr
  change List Int at cl
  refine aspec hmix hG Try.func82 tx82 (Eq.mpr (eq82 a1 a2 b1 b2 pr cl k) ?_)
  replace hk : k (rI (cmpC cl (a1, a2) (b1, b2))) [] := hk
  unfold vc82
  obtain ⟨hs, ha, hb⟩ := hpre
  have e : cmpC cl (a1, a2) (b1, b2) = orI [moreI cl b1 b2 a1 a2, cmpI a1 b1, cmpI a2 b2] := by
    unfold cmpC moreI
    show _ = (if moreC cl (b1, b2) (a1, a2) ≠ 0 then moreC cl (b1, b2) (a1, a2) else if cmpI a1 b1 ≠ 0 then cmpI a1 b1 else if cmpI a2 b2 ≠ 0 then cmpI a2 b2 else 0)
    split
    · rfl
    · split
      · rfl
      · split <;> simp only <;> omega
  rw [e] at hk
  exact ⟨⟨hs, hb, ha⟩, trivial, trivial, by show (3 : Nat) ≤ 1000; decide, hk⟩

theorem k79 (hG : Good Try.prog (envOf [])) : v79.Kept Try.prog 79 := by
  rintro ⟨pr, cl, n, ⟨⟩⟩ hpre k hk
  change Int at pr
  change List Int at cl
  change Int at n
  refine aspec hmix hG Try.func79 tx79 (Eq.mpr (eq79 pr cl n k) ?_)
  replace hk : k (.fn (.func 89) [] [.iptr [purse pr cl], .iptr [rI n]]) [] := hk
  unfold vc79
  exact hk

theorem allC_take (cl : List Int) (n : Int) (i : Nat) : (List.range (i + 1)).flatMap (fun i : Nat => (List.range n.toNat).map (fun j : Nat => ((i : Int), (j : Int) + 1))) = (List.range i).flatMap (fun i : Nat => (List.range n.toNat).map (fun j : Nat => ((i : Int), (j : Int) + 1))) ++ (List.range n.toNat).map (fun j : Nat => ((i : Int), (j : Int) + 1)) := by
  rw [List.range_succ, List.flatMap_append]; simp

theorem k80 (hG : Good Try.prog (envOf [(90, mkC [v90])])) : v80.Kept Try.prog 80 := by
  rintro ⟨pr, cl, n, ⟨⟩⟩ hpre k hk
  change Int at pr
  change List Int at cl
  change Int at n
  refine aspec hmix hG Try.func80 tx80 (Eq.mpr (eq80 pr cl n k) ?_)
  replace hk : k (.reg 0 false) [.sl (.pair (.int .i64) (.int .i64)) (allC cl n)] := hk
  unfold vc80
  exact ⟨hpre, hk⟩

def rowTo (i j : Nat) : List (Int × Int) := (List.range j).map (fun j : Nat => ((i : Int), (j : Int) + 1))
def rowsTo (n : Int) (i : Nat) : List (Int × Int) := (List.range i).flatMap (fun i : Nat => rowTo i n.toNat)
theorem rowTo_succ (i j : Nat) : rowTo i (j + 1) = rowTo i j ++ [((i : Int), (j : Int) + 1)] := by
  unfold rowTo; rw [List.range_succ, List.map_append]; rfl
theorem rowsTo_succ (n : Int) (i : Nat) : rowsTo n (i + 1) = rowsTo n i ++ rowTo i n.toNat := by
  unfold rowsTo; rw [List.range_succ, List.flatMap_append]; simp
theorem rowTo_len (i j : Nat) : (rowTo i j).length = j := by simp [rowTo]
theorem rowsTo_len (n : Int) : ∀ i, (rowsTo n i).length = i * n.toNat
  | 0 => by simp [rowsTo]
  | i + 1 => by rw [rowsTo_succ, List.length_append, rowsTo_len n i, rowTo_len, Nat.add_mul]; omega

theorem k90 (hG : Good Try.prog (envOf [])) : v90.Kept Try.prog 90 := by
  rintro ⟨pr, cl, n, ⟨⟩⟩ hpre k hk
  change Int at pr
  change List Int at cl
  change Int at n
  refine aspec hmix hG Try.func90 tx90 (Eq.mpr (eq90 pr cl n k) ?_)
  replace hk : k (.reg 0 false) [.sl (.pair (.int .i64) (.int .i64)) (allC cl n)] := hk
  unfold vc90
  obtain ⟨⟨hl, hx⟩, hn0, hn1⟩ := hpre
  have hl : cl.length ≤ 20 := hl
  have hn0 : 0 ≤ n := hn0
  have hn1 : n ≤ 1000 := hn1
  refine Loop.upto (fun i => (n, ((cl.length : Nat) : Int), (i : Int), pr, cl, n, rowsTo n i, ())) (fun i => True) cl.length rfl trivial ?_ ?_
  · intro i K hi hp hK
    dsimp only
    rw [br_decide]
    refine ⟨fun _ => ?_, fun h => absurd hi (by omega)⟩
    try simp only [Int.toNat_natCast]
    have hK := hK trivial
    have hrl := rowsTo_len n i
    have hm : i * n.toNat ≤ 20 * 1000 := Nat.mul_le_mul (by omega) (by omega)
    rw [rowsTo_succ] at hK
    refine Loop.upto (fun j => (n, (i : Int), ((cl.length : Nat) : Int), (i : Int), n, (j : Int), pr, cl, n, rowsTo n i ++ rowTo i j, ())) (fun j => True) n.toNat ?_ trivial ?_ ?_
    · show (n, (i : Int), ((cl.length : Nat) : Int), (i : Int), n, ((0 : Nat) : Int), pr, cl, n, rowsTo n i ++ [], ()) = _
      rw [List.append_nil]; rfl
    · intro j K2 hj _ hK2
      dsimp only
      rw [br_decide]
      refine ⟨fun _ => ⟨fits64 (by omega) (by omega), ?_, fits64 (by omega) (by omega), ?_⟩, fun h => absurd hj (by omega)⟩
      · have := rowTo_len i j
        simp only [List.length_append, List.length_singleton, big]; omega
      · have hK2 := hK2 trivial
        rw [rowTo_succ, ← List.append_assoc] at hK2
        exact hK2
    · intro K2 _
      dsimp only
      rw [br_decide]
      exact ⟨fun h => absurd h (by omega), fun _ => ⟨fits64 (by omega) (by omega), hK⟩⟩
  · intro K hp
    dsimp only
    rw [br_decide]
    refine ⟨fun h => absurd h (by omega), fun _ => ?_⟩
    exact hk
end Go.Abs.Farm
end

section
/- The farm's functions keep their contracts: second part. -/
open Go.Proofs
set_option maxRecDepth 100000
set_option linter.unusedVariables false
namespace Go.Abs.Farm

theorem any_two (lo hi a b : Int) : anyOut lo hi [a, b] = (outOf lo hi a || outOf lo hi b) := by simp [anyOut]

theorem k74 (hG : Good Try.prog (envOf [(56, mkC [v56])])) : v74.Kept Try.prog 74 := by
  rintro ⟨a, b, ⟨⟩⟩ hpre k hk
  change Int at a b
  refine aspec hmix hG Try.func74 tx74 (Eq.mpr (eq74 a b k) ?_)
  replace hk : k (.bool (stray (a, b))) [] := hk
  unfold vc74
  refine ⟨by show (2 : Nat) ≤ big60; decide, ?_⟩
  rw [Bool.not_not, any_two, br_bf]
  refine ⟨fun h => ?_, fun h => ?_⟩
  · simp only [Bool.or_eq_false_iff, outOf, decide_eq_false_iff_not] at h
    have : stray (a, b) = decide (a > b) := by simp only [stray, decide_eq_decide]; omega
    rwa [this] at hk
  · simp only [Bool.or_eq_true, outOf, decide_eq_true_eq] at h
    have : stray (a, b) = true := by simp only [stray, decide_eq_true_eq]; omega
    rwa [this] at hk

theorem k87a (hG : Good Try.prog (envOf [(74, mkC [v74])])) : v87a.Kept Try.prog 87 := by
  rintro ⟨rs, ⟨⟩⟩ hpre k hk
  change List (Int × Int) at rs
  refine aspec hmix hG Try.func87 tx87 (Eq.mpr (eq87a rs k) ?_)
  replace hk : k (rI (indexOf stray rs)) [] := hk
  unfold vc87a
  have hl0 : rs.length ≤ 1152921504606846976 := hpre
  refine Loop.upto (fun i => (rs, ((rs.length : Nat) : Int), (i : Int), ())) (fun i => ∀ y ∈ rs.take i, stray y = false) rs.length rfl (by simp) ?_ ?_
  · intro i K hi hp hK
    dsimp only
    rw [br_decide]
    refine ⟨fun _ => ?_, fun h => absurd hi (by omega)⟩
    try simp only [Int.toNat_natCast]
    refine ⟨⟨by omega, by omega⟩, trivial, ?_⟩
    refine br_intro (fun h => ?_) (fun h => ⟨fits64 (by omega) (by omega), hK (take_all_succ _ _ _ hi hp h)⟩)
    have : indexOf stray rs = (i : Int) := indexOf_some _ rs i hi hp h
    rwa [this] at hk
  · intro K hp
    dsimp only
    rw [br_decide]
    refine ⟨fun h => absurd h (by omega), fun _ => ?_⟩
    rw [List.take_length] at hp
    have : indexOf stray rs = -1 := indexOf_none _ rs hp
    rwa [this] at hk

theorem k87b (hG : Good Try.prog (envOf [(76, mkC [v76])])) : v87b.Kept Try.prog 87 := by
  rintro ⟨rs, ⟨⟩⟩ hpre k hk
  change List (Int × Int) at rs
  refine aspec hmix hG Try.func87 tx87 (Eq.mpr (eq87b rs k) ?_)
  replace hk : k (rI (indexOf up0 rs)) [] := hk
  unfold vc87b
  have hl0 : rs.length ≤ 1152921504606846976 := hpre
  refine Loop.upto (fun i => (rs, ((rs.length : Nat) : Int), (i : Int), ())) (fun i => ∀ y ∈ rs.take i, up0 y = false) rs.length rfl (by simp) ?_ ?_
  · intro i K hi hp hK
    dsimp only
    rw [br_decide]
    refine ⟨fun _ => ?_, fun h => absurd hi (by omega)⟩
    try simp only [Int.toNat_natCast]
    refine ⟨⟨by omega, by omega⟩, trivial, ?_⟩
    refine br_intro (fun h => ?_) (fun h => ⟨fits64 (by omega) (by omega), hK (take_all_succ _ _ _ hi hp h)⟩)
    have : indexOf up0 rs = (i : Int) := indexOf_some _ rs i hi hp h
    rwa [this] at hk
  · intro K hp
    dsimp only
    rw [br_decide]
    refine ⟨fun h => absurd h (by omega), fun _ => ?_⟩
    rw [List.take_length] at hp
    have : indexOf up0 rs = -1 := indexOf_none _ rs hp
    rwa [this] at hk

theorem k75a (hG : Good Try.prog (envOf [(87, mkC [v87a])])) : v75a.Kept Try.prog 75 := by
  rintro ⟨rs, ⟨⟩⟩ hpre k hk
  change List (Int × Int) at rs
  refine aspec hmix hG Try.func75 tx75 (Eq.mpr (eq75a rs k) ?_)
  replace hk : k (.bool (rs.any stray)) [] := hk
  unfold vc75a
  refine ⟨hpre, ?_⟩
  have : decide (indexOf stray rs ≥ 0) = rs.any stray := indexOf_ge _ rs
  rwa [this]

theorem k75b (hG : Good Try.prog (envOf [(87, mkC [v87b])])) : v75b.Kept Try.prog 75 := by
  rintro ⟨rs, ⟨⟩⟩ hpre k hk
  change List (Int × Int) at rs
  refine aspec hmix hG Try.func75 tx75 (Eq.mpr (eq75b rs k) ?_)
  replace hk : k (.bool (rs.any up0)) [] := hk
  unfold vc75b
  refine ⟨hpre, ?_⟩
  have : decide (indexOf up0 rs ≥ 0) = rs.any up0 := indexOf_ge _ rs
  rwa [this]

theorem k40 (hG : Good Try.prog (envOf [(66, mkC [v66]), (75, mkC [v75a, v75b])])) : v40.Kept Try.prog 40 := by
  rintro ⟨pr, rs, ⟨⟩⟩ hpre k hk
  change Int at pr
  change List (Int × Int) at rs
  refine aspec hmix hG Try.func40 tx40 (Eq.mpr (eq40 pr rs k) ?_)
  replace hk : k (rI (roughErr pr rs)) [] := hk
  unfold vc40
  have hl : rs.length ≤ 14 := hpre
  have hl60 : rs.length ≤ big60 := by simp only [big60]; omega
  refine ⟨trivial, ?_⟩
  rw [br_bne]
  refine ⟨fun h => ?_, fun h => ⟨hl60, ?_⟩⟩
  · have e : roughErr pr rs = sized pr (rs.length : Int) := by unfold roughErr; rw [if_pos h]
    rwa [e] at hk
  refine br_intro (fun h2 => ?_) (fun h2 => ⟨hl60, br_intro (fun h3 => ?_) (fun h3 => ?_)⟩)
  · have e : roughErr pr rs = 3 := by unfold roughErr; rw [if_neg (by omega), if_pos h2]
    rwa [e] at hk
  · have e : roughErr pr rs = 16 := by unfold roughErr; rw [if_neg (by omega), if_neg (by simp [h2])]; exact if_pos h3
    rwa [e] at hk
  · have e : roughErr pr rs = 0 := by unfold roughErr; rw [if_neg (by omega), if_neg (by simp [h2])]; exact if_neg (by rw [show (!rs.any fun x => decide (0 < x.1)) = (!rs.any up0) from rfl, h3]; simp)
    rwa [e] at hk

theorem stray_take {rs : List (Int × Int)} (h : ∀ x ∈ rs.take rs.length, stray x = false) : rs.any stray = false := by
  rw [List.take_length] at h
  rw [List.any_eq_false]
  intro x hx
  rw [h x hx]; simp
def lows (rs : List (Int × Int)) : Int := sumL (rs.map (·.1))
theorem lows_take {rs : List (Int × Int)} {i : Nat} (h : i < rs.length) : lows (rs.take (i + 1)) = lows (rs.take i) + rs[i].1 := by
  unfold lows
  rw [List.take_succ_eq_append_getElem h, List.map_append]
  unfold sumL
  rw [List.foldl_append]; rfl
theorem lows_zero {rs : List (Int × Int)} (h : ∀ x ∈ rs, 0 ≤ x.1) : lows rs = 0 ↔ rs.any up0 = false := by
  induction rs with
  | nil => simp [lows, sumL]
  | cons x rs ih =>
    have h1 := ih (fun y hy => h y (List.mem_cons_of_mem _ hy))
    have h2 := h x (List.mem_cons_self ..)
    have h3 : 0 ≤ lows rs := by
      have : ∀ l : List (Int × Int), (∀ y ∈ l, 0 ≤ y.1) → 0 ≤ lows l := by
        intro l hl
        induction l with
        | nil => simp [lows, sumL]
        | cons y l ih =>
          have := ih (fun z hz => hl z (List.mem_cons_of_mem _ hz))
          have := hl y (List.mem_cons_self ..)
          unfold lows at *
          rw [List.map_cons, sum_cons]; omega
      exact this rs (fun y hy => h y (List.mem_cons_of_mem _ hy))
    have e : lows (x :: rs) = x.1 + lows rs := by unfold lows; rw [List.map_cons, sum_cons]
    rw [e, List.any_cons, Bool.or_eq_false_iff, ← h1]
    simp only [up0, decide_eq_false_iff_not]
    omega

theorem k41 (hG : Good Try.prog (envOf [])) : v41.Kept Try.prog 41 := by
  rintro ⟨pr, rs, ⟨⟩⟩ hpre k hk
  change Int at pr
  change List (Int × Int) at rs
  refine aspec hmix hG Try.func41 tx41 (Eq.mpr (eq41 pr rs k) ?_)
  replace hk : k (rI (roughErr pr rs)) [] := hk
  unfold vc41
  have hl : rs.length ≤ 14 := hpre
  have e3 : (pr < 0 ∨ 200 < pr) → roughErr pr rs = 3 := fun h => by unfold roughErr sized; rw [if_pos h]; rfl
  have e6 : ¬ (pr < 0 ∨ 200 < pr) → ((rs.length : Int) < 1 ∨ 8 < (rs.length : Int)) → roughErr pr rs = 6 := fun h h' => by unfold roughErr sized; rw [if_neg h, if_pos h']; rfl
  rw [br_false]
  refine ⟨fun h1 => ?_, fun h1 => by rw [e3 (by omega)] at hk; exact hk⟩
  rw [br_decide]
  refine ⟨fun h2 => by rw [e3 (by omega)] at hk; exact hk, fun h2 => ?_⟩
  rw [br_false]
  refine ⟨fun h3 => ?_, fun h3 => by rw [e6 (by omega) (by omega)] at hk; exact hk⟩
  rw [br_decide]
  refine ⟨fun h4 => by rw [e6 (by omega) (by omega)] at hk; exact hk, fun h4 => ?_⟩
  have hs : sized pr (rs.length : Int) = 0 := by unfold sized; rw [if_neg (by omega), if_neg (by omega)]
  refine Loop.upto (fun i => (lows (rs.take i), (i : Int), pr, rs, ())) (fun i => (∀ x ∈ rs.take i, stray x = false) ∧ 0 ≤ lows (rs.take i) ∧ lows (rs.take i) ≤ 100 * (i : Int)) rs.length rfl ⟨by simp, by simp [lows, sumL], by simp [lows, sumL]⟩ ?_ ?_
  · intro i K hi hp hK
    dsimp only
    rw [br_decide]
    refine ⟨fun _ => ?_, fun h => absurd hi (by omega)⟩
    try simp only [Int.toNat_natCast]
    obtain ⟨hp1, hp2, hp3⟩ := hp
    have bad : stray rs[i] = true → roughErr pr rs = 3 := fun h => by unfold roughErr; rw [if_neg (by omega), if_pos (List.any_eq_true.2 ⟨_, List.getElem_mem hi, h⟩)]
    have st : (rs[i].1 < 0 ∨ 100 < rs[i].2 ∨ rs[i].2 < rs[i].1) → stray rs[i] = true := fun h => by simp only [stray, decide_eq_true_eq]; omega
    refine ⟨⟨by omega, by omega⟩, ?_⟩
    rw [br_false]
    refine ⟨fun h5 => ⟨⟨by omega, by omega⟩, ⟨by omega, by omega⟩, ?_⟩, fun h5 => by rw [bad (st (by omega))] at hk; exact hk⟩
    rw [br_false]
    refine ⟨fun h6 => ⟨⟨by omega, by omega⟩, ?_⟩, fun h6 => by rw [bad (st (by omega))] at hk; exact hk⟩
    rw [br_decide]
    refine ⟨fun h7 => by rw [bad (st (by omega))] at hk; exact hk, fun h7 => ⟨⟨by omega, by omega⟩, fits64 (by omega) (by omega), fits64 (by omega) (by omega), ?_⟩⟩
    rw [lows_take hi] at hK
    refine hK ⟨take_all_succ _ _ _ hi hp1 (by simp only [stray, decide_eq_false_iff_not]; omega), by omega, by omega⟩
  · intro K hp
    dsimp only
    rw [br_decide]
    refine ⟨fun h => absurd h (by omega), fun _ => ?_⟩
    obtain ⟨hp1, hp2, hp3⟩ := hp
    have ha := stray_take hp1
    rw [List.take_length] at hp1 ⊢
    have hz := lows_zero (rs := rs) (fun x hx => by have := hp1 x hx; simp only [stray, decide_eq_false_iff_not] at this; omega)
    rw [br_beq]
    refine ⟨fun h5 => ?_, fun h5 => ?_⟩
    · have e : roughErr pr rs = 16 := by unfold roughErr; rw [if_neg (by omega), if_neg (by simp [ha])]; exact if_pos (by rw [show (rs.any fun x => decide (0 < x.1)) = rs.any up0 from rfl, hz.1 h5]; rfl)
      rwa [e] at hk
    · have e : roughErr pr rs = 0 := by
        unfold roughErr; rw [if_neg (by omega), if_neg (by simp [ha])]
        refine if_neg ?_
        rw [show (rs.any fun x => decide (0 < x.1)) = rs.any up0 from rfl]
        have := mt hz.2 h5
        simp at this ⊢; exact this
      rwa [e] at hk

theorem k50 (hG : Good Try.prog (envOf [(37, mkC [v37]), (41, mkC [v41])])) : v50.Kept Try.prog 50 := by
  rintro ⟨pr, rs, ⟨⟩⟩ hpre k hk
  change Int at pr
  change List (Int × Int) at rs
  refine aspec hmix hG Try.func50 tx50 (Eq.mpr (eq50 pr rs k) ?_)
  replace hk : k (.bool (sound pr rs)) [] := hk
  unfold vc50
  refine ⟨trivial, ?_⟩
  rw [br_bt]
  refine ⟨fun h => ?_, fun h => ?_⟩
  · have hg : rs.length ≤ 14 := by simp [wide] at h; exact h
    refine ⟨hg, ?_⟩
    have : sound pr rs = (roughErr pr rs == 0) := by simp [sound, h, reIs]; rfl
    rwa [this] at hk
  · have : sound pr rs = false := by simp [sound, h]
    rwa [this] at hk

theorem k45 (hG : Good Try.prog (envOf [(27, mkC [v27]), (48, mkC [v48])])) : v45.Kept Try.prog 45 := by
  rintro ⟨pr, cl, s, ⟨⟩⟩ hpre k hk
  change Int at pr
  change List Int at cl
  change List Int at s
  refine aspec hmix hG Try.func45 tx45 (Eq.mpr (eq45 pr cl s k) ?_)
  replace hk : k (rI (sharesErr pr cl s)) [] := hk
  unfold vc45
  obtain ⟨hl, hsl⟩ := hpre
  have hl : cl.length ≤ 14 := hl
  have hsl : s.length ≤ 14 := hsl
  refine ⟨hl, ?_⟩
  rw [br_bne]
  refine ⟨fun h => ⟨hl, ?_⟩, fun h => ?_⟩
  · have e : sharesErr pr cl s = yearErr pr cl := by unfold sharesErr; rw [if_pos h]
    rwa [e] at hk
  rw [br_bne]
  refine ⟨fun h2 => ?_, fun h2 => ?_⟩
  · have e : sharesErr pr cl s = 15 := by unfold sharesErr; rw [if_neg (by omega), if_pos (by omega)]
    rwa [e] at hk
  refine Loop.upto (fun i => (s, (i : Int), pr, cl, ())) (fun i => ∀ x ∈ s.take i, (0 : Int) ≤ x ∧ x ≤ 200) s.length rfl (by simp) ?_ ?_
  · intro i K hi hp hK
    dsimp only
    rw [br_decide]
    refine ⟨fun _ => ?_, fun h => absurd hi (by omega)⟩
    try simp only [Int.toNat_natCast]
    have bad : (s[i] < 0 ∨ 200 < s[i]) → sharesErr pr cl s = 3 := fun h' => by unfold sharesErr; rw [if_neg (by omega), if_neg (by omega), if_pos (any_at hi h')]
    refine ⟨⟨by omega, by omega⟩, ?_⟩
    rw [br_false]
    refine ⟨fun h5 => ⟨⟨by omega, by omega⟩, ?_⟩, fun h5 => by rw [bad (by omega)] at hk; exact hk⟩
    rw [br_decide]
    exact ⟨fun h6 => by rw [bad (by omega)] at hk; exact hk, fun h6 => ⟨fits64 (by omega) (by omega), hK (take_in hi hp ⟨by omega, by omega⟩)⟩⟩
  · intro K hp
    dsimp only
    rw [br_decide]
    refine ⟨fun h => absurd h (by omega), fun _ => ?_⟩
    have ha := any_take hp
    rw [List.take_length] at hp
    refine ⟨⟨by show s.length ≤ 20; omega, fun x hx => ⟨(hp x hx).1, by have := (hp x hx).2; omega⟩⟩, ?_⟩
    rw [br_bne]
    refine ⟨fun h5 => ?_, fun h5 => ?_⟩
    · have e : sharesErr pr cl s = 14 := by unfold sharesErr; rw [if_neg (by omega), if_neg (by omega), if_neg (by simp [ha]), if_pos h5]
      rwa [e] at hk
    · have e : sharesErr pr cl s = 0 := by unfold sharesErr; rw [if_neg (by omega), if_neg (by omega), if_neg (by simp [ha]), if_neg (by omega)]
      rwa [e] at hk
end Go.Abs.Farm
end

section
/- The library's SortFunc at this program: the numbers of its parts (printed by the kit's tool). -/
namespace Go.Proofs
open Go.Shelf
def Try.laySort_ren : Go.Shelf.Ren := ⟨fun | 6 => 81 | 15 => 92 | 14 => 91 | 28 => 105 | 29 => 106 | 20 => 97 | 21 => 98 | 22 => 99 | 23 => 100 | 24 => 101 | 25 => 102 | 26 => 103 | 27 => 104 | 46 => 108 | 47 => 109 | 48 => 110 | 49 => 111 | 50 => 112 | 57 => 114 | n => n, fun | 22 => 84 | 24 => 83 | 25 => 91 | 3 => 3 | 39 => 117 | 0 => 0 | 53 => 130 | 55 => 132 | 4 => 4 | 46 => 123 | 45 => 122 | 50 => 127 | 5 => 5 | 9 => 9 | 66 => 133 | 70 => 137 | 76 => 139 | 77 => 140 | n => n, fun | n => n⟩
theorem Try.laySort : Go.Proofs.SlLaysF0.n6 Try.prog Try.laySort_ren := {
  mixed := by kernel_rfl
  f6 := ⟨Try.f81.name, by decide, Try.func81.trans (congrArg some (by kernel_rfl))⟩
  f14 := ⟨Try.f91.name, by decide, Try.func91.trans (congrArg some (by kernel_rfl))⟩
  f15 := Try.func92.trans (congrArg some (by kernel_rfl))
  f20 := ⟨Try.f97.name, by decide, Try.func97.trans (congrArg some (by kernel_rfl))⟩
  f21 := ⟨Try.f98.name, by decide, Try.func98.trans (congrArg some (by kernel_rfl))⟩
  f22 := ⟨Try.f99.name, by decide, Try.func99.trans (congrArg some (by kernel_rfl))⟩
  f23 := ⟨Try.f100.name, by decide, Try.func100.trans (congrArg some (by kernel_rfl))⟩
  f24 := ⟨Try.f101.name, by decide, Try.func101.trans (congrArg some (by kernel_rfl))⟩
  f25 := ⟨Try.f102.name, by decide, Try.func102.trans (congrArg some (by kernel_rfl))⟩
  f26 := ⟨Try.f103.name, by decide, Try.func103.trans (congrArg some (by kernel_rfl))⟩
  f27 := ⟨Try.f104.name, by decide, Try.func104.trans (congrArg some (by kernel_rfl))⟩
  f28 := Try.func105.trans (congrArg some (by kernel_rfl))
  f29 := Try.func106.trans (congrArg some (by kernel_rfl))
  f46 := ⟨Try.f108.name, by decide, Try.func108.trans (congrArg some (by kernel_rfl))⟩
  f47 := Try.func109.trans (congrArg some (by kernel_rfl))
  f48 := Try.func110.trans (congrArg some (by kernel_rfl))
  f49 := ⟨Try.f111.name, by decide, Try.func111.trans (congrArg some (by kernel_rfl))⟩
  f50 := ⟨Try.f112.name, by decide, Try.func112.trans (congrArg some (by kernel_rfl))⟩
  f57 := ⟨Try.f114.name, by decide, Try.func114.trans (congrArg some (by kernel_rfl))⟩
  t0 := Try.underlying0
  a0 := Try.isAgg0
  z0 := Try.sizeOf0
  v0 := Try.zeroValue0
  t3 := Try.underlying3
  a3 := Try.isAgg3
  z3 := Try.sizeOf3
  v3 := Try.zeroValue3
  t4 := Try.underlying4
  a4 := Try.isAgg4
  z4 := Try.sizeOf4
  v4 := Try.zeroValue4
  t5 := Try.underlying5
  a5 := Try.isAgg5
  z5 := Try.sizeOf5
  v5 := Try.zeroValue5
  t9 := Try.underlying9
  a9 := Try.isAgg9
  z9 := Try.sizeOf9
  v9 := Try.zeroValue9
  t22 := Try.underlying84
  a22 := Try.isAgg84
  z22 := Try.sizeOf84
  v22 := Try.zeroValue84
  t25 := Try.underlying91
  a25 := Try.isAgg91
  z25 := Try.sizeOf91
  v25 := Try.zeroValue91
  t39 := Try.underlying117
  a39 := Try.isAgg117
  z39 := Try.sizeOf117
  v39 := Try.zeroValue117
  t45 := Try.underlying122
  a45 := Try.isAgg122
  z45 := Try.sizeOf122
  v45 := Try.zeroValue122
  t46 := Try.underlying123
  a46 := Try.isAgg123
  z46 := Try.sizeOf123
  v46 := Try.zeroValue123
  t50 := Try.underlying127
  a50 := Try.isAgg127
  z50 := Try.sizeOf127
  v50 := Try.zeroValue127
  t53 := Try.underlying130
  a53 := Try.isAgg130
  z53 := Try.sizeOf130
  v53 := Try.zeroValue130
  t55 := Try.underlying132
  a55 := Try.isAgg132
  z55 := Try.sizeOf132
  v55 := Try.zeroValue132
  t66 := Try.underlying133
  a66 := Try.isAgg133
  z66 := Try.sizeOf133
  v66 := Try.zeroValue133
  t70 := Try.underlying137
  a70 := Try.isAgg137
  z70 := Try.sizeOf137
  v70 := Try.zeroValue137
  t76 := Try.underlying139
  a76 := Try.isAgg139
  z76 := Try.sizeOf139
  v76 := Try.zeroValue139
  t77 := Try.underlying140
  a77 := Try.isAgg140
  z77 := Try.sizeOf140
  v77 := Try.zeroValue140 }
end Go.Proofs
end

section
/- What comes in: arguments that can be read are plain data, of which all cells are known. -/
namespace Go.Abs
open Go.ChangeShapes Go.WideShapes Go.RowKit

/-- All that lies in a world is known, for good. -/
def knowAll (w : World) : Know where
  cells := fun b => match w.heap[b]? with
    | some (.cells cs _ _) => some cs
    | _ => none
  inv := fun _ => none
  y := none

theorem knowAll_cells {w : World} {b : Nat} {cs : Array Value} (h : (knowAll w).cells b = some cs) : ∃ e fz, w.heap[b]? = some (.cells cs e fz) := by
  simp only [knowAll] at h
  split at h
  · rename_i cs' e fz hb
    cases h
    exact ⟨e, fz, hb⟩
  · cases h

theorem wok_all (w : World) : WOk (fun b => b < w.heap.size) (knowAll w) w where
  knows := ⟨fun b cs h => knowAll_cells h, fun b p h => by cases h⟩
  lt := fun b h => h
  inv := fun b p h => by cases h
  apart := fun b p h => by cases h

theorem below_of_kept {w w' : World} (h : Kept (fun b => b < w.heap.size) w w') : Below w.heap.size w w' := ⟨h.os, h.tape, h.output, h.size, fun k hk => h.block k hk⟩

theorem cells_slab {w : World} {base : Nat} {a : Addr} {n : Nat} {cs : List Value} (h : w.cells? base a n = some cs) (hn : 0 < n) :
    a.spot = none ∧ ∃ arr, (knowAll w).cells a.block = some arr ∧ cs = slab arr a.off n := by
  obtain ⟨_, hl, hc⟩ := World.cells?_some h
  have h0 := hc 0 hn
  have e0 : a.add 0 = a := by simp [Addr.add]
  rw [e0, List.getElem?_eq_getElem (by omega)] at h0
  have hs := World.cell?_spot h0
  refine ⟨hs, ?_⟩
  have hb : ∃ arr e fz, w.heap[a.block]? = some (.cells arr e fz) := by
    unfold World.cell? at h0
    split at h0
    · exact ⟨_, _, _, ‹_›⟩
    · cases h0
  obtain ⟨arr, e, fz, hb⟩ := hb
  refine ⟨arr, by simp only [knowAll, hb], ?_⟩
  have hcell : ∀ i, i < n → arr[a.off + i]? = cs[i]? := by
    intro i hi
    rw [← hc i hi]
    have e1 : (a.add i).block = a.block := by unfold Addr.add; split <;> rfl
    have e2 : (a.add i).off = a.off + i := by unfold Addr.add; split <;> simp_all
    have e3 : (a.add i).spot = none := by unfold Addr.add; split <;> simp_all
    unfold World.cell?
    rw [e1, hb]
    simp only [e3, e2, Option.isSome_none, Bool.false_eq_true, if_false]
  apply List.ext_getElem?
  intro i
  unfold slab
  rw [List.getElem?_take, List.getElem?_drop]
  by_cases hi : i < n
  · rw [if_pos hi, ← hcell i hi, Array.getElem?_toList]
  · rw [if_neg hi, List.getElem?_eq_none (by omega)]

/-- All numbers fit their kinds. -/
def Ty.wf : (t : Ty) → t.den → Prop
  | .int k, n => (Lit.int k n).wf = true
  | .bool, _ => True
  | .slice e, l => ∀ x ∈ (show List e.den from l), e.wf x
  | .pair a b, x => a.wf x.1 ∧ b.wf x.2

variable {H : Type} {enc : TypeId × Value → H} {P : Program} {w : World} {base : Nat} {spare : Nat → Bool} {held : Bool}

theorem trod_bool {t : TypeId} {fuel : Nat} {cs : List Value} {x : DataW H × List MemPlace} (ht : P.underlying t = some .bool) (h : DataW.trod enc P w base spare held fuel t cs = some x) : ∃ b, cs = [.bool b] := by
  cases fuel with
  | zero => simp [DataW.trod] at h
  | succ n =>
    unfold DataW.trod at h
    rw [ht] at h
    split at h <;> simp_all

theorem den_fields {f : TypeId → Option Ty} {K : Know} {n : Nat} {cs : List Value} (hsz : ∀ t ty, f t = some ty → P.cellsOf t = ty.size)
    (hf : ∀ t ty, f t = some ty → ∀ cs x, DataW.trod enc P w base spare held n t cs = some x → ∃ y : ty.den, DenRep K ty y cs ∧ ty.wf y) :
    ∀ (fs : List Field) (o : Nat) (ty : Ty), tyFields f fs o = some ty → cs.length = o + ty.size → (∀ a ∈ fs, ∃ x, DataW.trod enc P w base spare held n a.type ((cs.drop a.offset).take (P.cellsOf a.type)) = some x) → ∃ y : ty.den, DenRep K ty y (cs.drop o) ∧ ty.wf y
  | [], _, _, h, _, _ => by simp [tyFields] at h
  | [a], o, ty, h, hl, hx => by
    replace h : (if a.offset = o then f a.type else none) = some ty := h
    split at h
    · rename_i ho
      obtain ⟨x, hx⟩ := hx a (by simp)
      rw [hsz _ _ h, ho, List.take_of_length_le (by rw [List.length_drop]; omega)] at hx
      exact hf _ _ h _ _ hx
    · cases h
  | a :: b :: r, o, ty, h, hl, hx => by
    replace h : (if a.offset = o then (match f a.type with
      | some x => match tyFields f (b :: r) (o + x.size) with
        | some y => some (.pair x y)
        | none => none
      | none => none) else none) = some ty := h
    split at h
    · rename_i ho
      split at h
      · rename_i x1 h1
        split at h
        · rename_i x2 h2
          cases h
          simp only [Ty.size] at hl
          obtain ⟨z, hz⟩ := hx a (by simp)
          rw [hsz _ _ h1, ho] at hz
          obtain ⟨y1, d1, w1⟩ := hf _ _ h1 _ _ hz
          obtain ⟨y2, d2, w2⟩ := den_fields hsz hf (b :: r) (o + x1.size) x2 h2 (by omega) (fun c hc => hx c (List.mem_cons_of_mem _ hc))
          refine ⟨(y1, y2), ⟨_, _, ?_, d1, d2⟩, ⟨w1, w2⟩⟩
          rw [← List.drop_drop]
          exact (List.take_append_drop _ _).symm
        · cases h
      · cases h
    · cases h

theorem den_of_trod : ∀ (d : Nat) (t : TypeId) (ty : Ty), tyOf P d t = some ty → ∀ (fuel : Nat) (cs : List Value) (x : DataW H × List MemPlace), DataW.trod enc P w base spare held fuel t cs = some x → ∃ y : ty.den, DenRep (knowAll w) ty y cs ∧ ty.wf y := by
  intro d
  induction d with
  | zero => intro t ty h; simp [tyOf] at h
  | succ d ih =>
    intro t ty h fuel cs x hx
    unfold tyOf at h
    split at h
    · rename_i i k hi hu
      split at h
      · cases h
        obtain ⟨n, rfl, _, hw⟩ := DataW.trod_int hu hx
        exact ⟨n, rfl, hw⟩
      · cases h
    · rename_i i hi hu
      split at h
      · cases h
        obtain ⟨b, rfl⟩ := trod_bool hu hx
        exact ⟨b, rfl, trivial⟩
      · cases h
    · rename_i i e hi hu
      split at h
      · split at h
        · rename_i a ha
          cases h
          obtain ⟨_, _, hi2, hi3, _, _⟩ := tyOf_info d e a ha
          have hco : P.cellsOf e = a.size := by simp only [Program.cellsOf, hi2, Option.map_some, Option.getD_some, hi3]
          rcases Deep.open_slice hu hx with ⟨rfl, _⟩ | ⟨ad, len, cap, m, n, D, Pl, rfl, _, hlc, _, hm, _, hel⟩
          · exact ⟨([] : List a.den), ⟨none, 0, rfl, Nat.le_refl _, Or.inl rfl⟩, fun x hx => by cases hx⟩
          · have hlm : len ≤ m := by rw [hm]; split <;> omega
            have hall : ∀ i, i < len → ∃ y : a.den, a.wf y ∧ ad.spot = none ∧ ∃ arr, (knowAll w).cells ad.block = some arr ∧ DenRep (knowAll w) a y (slab arr (ad.off + i * a.size) a.size) := by
              intro i hi
              obtain ⟨cs', hc1, hc2⟩ := hel i (by omega)
              rw [hco] at hc1
              obtain ⟨s1, arr, s2, s3⟩ := cells_slab hc1 a.size_pos
              obtain ⟨y, y1, y2⟩ := ih e a ha n cs' _ hc2
              have e1 : (ad.add (i * a.size)).block = ad.block := by unfold Addr.add; split <;> rfl
              have e2 : (ad.add (i * a.size)).off = ad.off + i * a.size := by unfold Addr.add; split <;> simp_all
              have e3 : ad.spot = none := by
                obtain ⟨cs0, hc0, _⟩ := hel 0 (by omega)
                rw [hco, Nat.zero_mul] at hc0
                have e0 : ad.add 0 = ad := by simp [Addr.add]
                rw [e0] at hc0
                exact (cells_slab hc0 a.size_pos).1
              rw [e1] at s2
              rw [e2] at s3
              rw [s3] at y1
              exact ⟨y, y2, e3, arr, s2, y1⟩
            let g : Nat → a.den := fun i => if h : i < len then Classical.choose (hall i h) else a.zero
            have hg : ∀ i (h : i < len), g i = Classical.choose (hall i h) := fun i h => by simp only [g, dif_pos h]
            refine ⟨((List.range len).map g : List a.den), ⟨some ad, cap, ?_, ?_, ?_⟩, ?_⟩
            · rw [List.length_map, List.length_range]
            · rw [List.length_map, List.length_range]; exact hlc
            · rcases Nat.eq_zero_or_pos len with h0 | h0
              · subst h0; exact Or.inl rfl
              · have h1 := Classical.choose_spec (hall 0 h0)
                obtain ⟨_, s1, arr, s2, _⟩ := h1
                refine Or.inr ⟨ad.block, ad.off, arr, ?_, s2, ?_⟩
                · rw [← s1]
                · intro i hi
                  rw [List.length_map, List.length_range] at hi
                  have h2 := Classical.choose_spec (hall i hi)
                  obtain ⟨_, _, arr', s3, s4⟩ := h2
                  rw [s2] at s3
                  cases s3
                  rw [List.getElem_map, List.getElem_range, hg i hi]
                  exact s4
            · intro x hx
              obtain ⟨i, hi, rfl⟩ := List.mem_map.1 hx
              have hi := List.mem_range.1 hi
              rw [hg i hi]
              exact (Classical.choose_spec (hall i hi)).1
        · cases h
      · cases h
    · rename_i i fs hi hu
      split at h
      · rename_i a ha
        split at h
        · rename_i hs
          cases h
          obtain ⟨xs, n, rfl, _, hl, hxl, hx⟩ := DataW.trod_struct hu hx
          have hco : P.cellsOf t = ty.size := by simp only [Program.cellsOf, hi, Option.map_some, Option.getD_some, hs]
          have := den_fields (K := knowAll w) (cs := cs) (n := n) (enc := enc) (P := P) (w := w) (base := base) (spare := spare) (held := held) (f := tyOf P d) (fun t ty h => by
              obtain ⟨_, _, hi2, hi3, _, _⟩ := tyOf_info d t ty h
              simp only [Program.cellsOf, hi2, Option.map_some, Option.getD_some, hi3]) (fun t ty h cs x hx => ih t ty h n cs x hx) fs.toList 0 ty ha (by omega) (fun f hf => by
              obtain ⟨i, hi, rfl⟩ := List.getElem_of_mem hf
              have hi' : i < fs.size := by simpa using hi
              have := hx i fs[i] (by simp [hi'])
              rw [List.getElem?_eq_getElem (by omega)] at this
              exact ⟨_, by simpa using this⟩)
          simpa using this
        · cases h
      · cases h
    · cases h

def isStructT (P : Program) (t : TypeId) : Bool := match P.underlying t with
  | some (.struct _) => true
  | _ => false
def isSliceT (P : Program) (t : TypeId) : Bool := match P.underlying t with
  | some (.slice _) => true
  | _ => false
theorem isStructT_spec {t : TypeId} (h : isStructT P t = true) : ∃ fs, P.underlying t = some (.struct fs) := by
  unfold isStructT at h
  split at h
  · exact ⟨_, ‹_›⟩
  · cases h
theorem isSliceT_spec {t : TypeId} (h : isSliceT P t = true) : ∃ e, P.underlying t = some (.slice e) := by
  unfold isSliceT at h
  split at h
  · exact ⟨_, ‹_›⟩
  · cases h

/-- An argument that is a struct. -/
theorem arg_struct {r : Reach} {b0 d : Nat} {t : TypeId} (ty : Ty) {v : Value} {dd : DataW H} {ps : List MemPlace} (hs : isStructT P t = true) (ht : tyOf P d t = some ty)
    (hv : Value.okWide P w r b0 t v) (h : DataW.Trod enc P w base spare held t v dd ps) (Hs : Nat → Option Hd) : ∃ y : ty.den, Rep (knowAll w) Hs (.agg (ty.cells y)) v ∧ ty.wf y := by
  obtain ⟨fs, hu⟩ := isStructT_spec hs
  obtain ⟨cs, rfl, _⟩ := okWide_struct hu hv
  obtain ⟨fuel, hf⟩ := h
  obtain ⟨y, h1, h2⟩ := den_of_trod d t ty ht fuel _ _ hf
  refine ⟨y, ?_, h2⟩
  simp only [Rep]
  exact ⟨cs, rfl, repL_cells ty y _ h1⟩

/-- An argument that is a slice. -/
theorem arg_slice {r : Reach} {b0 d : Nat} {t : TypeId} (ty : Ty) {v : Value} {dd : DataW H} {ps : List MemPlace} (hs : isSliceT P t = true) (ht : tyOf P d t = some (.slice ty))
    (hv : Value.okWide P w r b0 t v) (h : DataW.Trod enc P w base spare held t v dd ps) (Hs : Nat → Option Hd) : ∃ l : List ty.den, Rep (knowAll w) Hs (.imm ty l false) v ∧ ∀ x ∈ l, ty.wf x := by
  obtain ⟨e, hu⟩ := isSliceT_spec hs
  obtain ⟨a, len, cap, rfl⟩ := okWide_slice hu hv
  obtain ⟨fuel, hf⟩ := h
  obtain ⟨y, h1, h2⟩ := den_of_trod d t (.slice ty) ht fuel _ _ hf
  refine ⟨(show List ty.den from y), ?_, h2⟩
  obtain ⟨ba, ca, e1, e2, e3⟩ := h1
  simp only [Rep]
  refine ⟨ba, ca, ?_, e2, ⟨fun h => absurd h (by simp), e3⟩⟩
  simpa [Value.cells] using e1

/-- An argument that is a number. -/
theorem arg_int {r : Reach} {b0 : Nat} {t : TypeId} (k : IntKind) {v : Value} {dd : DataW H} {ps : List MemPlace} (hu : P.underlying t = some (.int k))
    (hv : Value.okWide P w r b0 t v) (h : DataW.Trod enc P w base spare held t v dd ps) (Hs : Nat → Option Hd) : ∃ n, Rep (knowAll w) Hs (.int k n) v ∧ (Lit.int k n).wf = true := by
  obtain ⟨n, rfl, _, _, h2⟩ := open_int hu hv h
  exact ⟨n, by simp [Rep], h2⟩

/-- A function that returns true, at arguments that can be read, does so, and leaves all as it was. -/
theorem law_calls {P : Program} {f : FuncId} {gs : List AVal} {W : World} {vs : List Value} (h : ASpec P f gs [] (fun v _ => v = .bool true)) (hr : RepL (knowAll W) (fun _ => none) gs vs) :
    Calls P f vs.toArray W fun e w' => e = .returned (.bool true) ∧ Below W.heap.size W w' := by
  refine (h (fun b => b < W.heap.size) (knowAll W) (fun _ => none) W vs (wok_all W) hr ⟨fun r c f hd h => (by cases h), fun r c hd b h => (by cases h), fun r c hd b h => (by cases h), fun r r' c c' hd hd' b h => (by cases h)⟩ (fun _ _ => rfl)).mono ?_
  rintro e w' ⟨v, r, RM, K', H', rfl, rfl, _, hrep, _, _, _, hk, _⟩
  simp only [Rep] at hrep
  subst hrep
  exact ⟨rfl, below_of_kept hk⟩
theorem byte_wf {n : Int} (h : (Lit.int .u8 n).wf = true) : 0 ≤ n ∧ n ≤ 255 := by
  unfold Lit.wf at h
  rw [Bool.and_eq_true, decide_eq_true_eq, decide_eq_true_eq] at h
  have e1 : IntKind.min .u8 = 0 := by decide
  have e2 : IntKind.max .u8 = 255 := by decide
  omega
theorem half_wf {n : Int} (h : (Lit.int .u16 n).wf = true) : 0 ≤ n ∧ n ≤ 65535 := by
  unfold Lit.wf at h
  rw [Bool.and_eq_true, decide_eq_true_eq, decide_eq_true_eq] at h
  have e1 : IntKind.min .u16 = 0 := by decide
  have e2 : IntKind.max .u16 = 65535 := by decide
  omega
end Go.Abs
end

section
/- Functions that keep contracts, put together. -/
namespace Go.Abs

/-- A function keeps its contract at each of these shapes of arguments. -/
structure Keeps (P : Program) (f : FuncId) (vs : List Var) : Prop where
  code : ∃ fn c, P.funcs[f]? = some fn ∧ fn.body = some c ∧ (fn.name == "runtime.NumGoroutine") = false
  kept : ∀ v ∈ vs, v.Kept P f

theorem Keeps.add {P : Program} {f : FuncId} {vs : List Var} {l : List (FuncId × Contract)} (h : Keeps P f vs) (hG : Good P (envOf l)) : Good P (envOf ((f, mkC vs) :: l)) := by
  obtain ⟨fn, c, h1, h2, h3⟩ := h.code
  exact good_cons hG h1 h2 h3 (spec_vars vs h.kept)

/-- A function's code is there. -/
structure HasCode (P : Program) (f : FuncId) : Prop where
  code : ∃ fn c, P.funcs[f]? = some fn ∧ fn.body = some c ∧ (fn.name == "runtime.NumGoroutine") = false
theorem hasCode {P : Program} {f : FuncId} {fn : Func} (hf : P.funcs[f]? = some fn) (hb : fn.body.isSome = true) (hn : (fn.name == "runtime.NumGoroutine") = false) : HasCode P f := by
  obtain ⟨c, hc⟩ := Option.isSome_iff_exists.1 hb
  exact ⟨fn, c, hf, hc, hn⟩

theorem keeps1 {P : Program} {f : FuncId} {v : Var} (h : HasCode P f) (hv : v.Kept P f) : Keeps P f [v] := ⟨h.code, fun v' hm => by simp at hm; subst hm; exact hv⟩
theorem keeps2 {P : Program} {f : FuncId} {v v2 : Var} (h : HasCode P f) (hv : v.Kept P f) (hv2 : v2.Kept P f) : Keeps P f [v, v2] := ⟨h.code, fun v' hm => by simp at hm; rcases hm with rfl | rfl; exact hv; exact hv2⟩
theorem Keeps.one {P : Program} {f : FuncId} {v : Var} (h : Keeps P f [v]) : v.Kept P f := h.kept v (by simp)

theorem kept_zero {P : Program} {f : FuncId} {v : Var} (μ : v.D → Nat) : (v.below μ 0).Kept P f := fun _ hx => absurd hx.2 (Nat.not_lt_zero _)
theorem kept_all {P : Program} {f : FuncId} {v : Var} (μ : v.D → Nat) (h : ∀ n, (v.below μ n).Kept P f) : v.Kept P f := fun x hx k hk => h (μ x + 1) x ⟨hx, Nat.lt_succ_self _⟩ k hk
theorem keeps_rec {P : Program} {f : FuncId} {v : Var} (μ : v.D → Nat) (hc : HasCode P f) (step : ∀ n, Keeps P f [v.below μ n] → (v.below μ (n + 1)).Kept P f) : Keeps P f [v] := by
  have key : ∀ n, (v.below μ n).Kept P f := by
    intro n
    induction n with
    | zero => exact kept_zero μ
    | succ n ih => exact step n (keeps1 hc ih)
  exact keeps1 hc (kept_all μ key)

theorem aspec_mono {P : Program} {f : FuncId} {gs : List AVal} {cs : List Cont} {k k' : AVal → List Cont → Prop} (h : ASpec P f gs cs k) (hk : ∀ v c, k v c → k' v c) : ASpec P f gs cs k' := by
  intro F K H w vs h1 h2 h3 h4
  refine (h F K H w vs h1 h2 h3 h4).mono ?_
  rintro e w' ⟨v, r, RM, K', H', g1, g2, g3⟩
  exact ⟨v, r, RM, K', H', g1, hk _ _ g2, g3⟩
end Go.Abs
end

section
/- The library's SortFunc, at elements of one cell: its contract over regions handed to it. -/
namespace Go.Abs
open Go.Proofs Go.Shelf Go.Sort

/-! ### values that hang on known cells alone -/
theorem ElemsBy.cells {α : Type} {K K' : Know} {sz : Nat} {R R' : α → List Value → Prop} {l : List α} {base : Option Addr}
    (hK : ∀ b cs, K.cells b = some cs → K'.cells b = some cs) (hR : ∀ x cs, R x cs → R' x cs) (h : ElemsBy K sz R l base) : ElemsBy K' sz R' l base := by
  rcases h with h | ⟨b, off, arr, h1, h2, h3⟩
  · exact .inl h
  · exact .inr ⟨b, off, arr, h1, hK _ _ h2, fun i hi => hR _ _ (h3 i hi)⟩
theorem DenRep.cells {K K' : Know} (hK : ∀ b cs, K.cells b = some cs → K'.cells b = some cs) : ∀ (t : Ty) (x : t.den) (cs : List Value), DenRep K t x cs → DenRep K' t x cs
  | .int _, _, _, h => h
  | .bool, _, _, h => h
  | .slice e, l, cs, h => by
    obtain ⟨base, cap, h1, h2, h3⟩ := h
    exact ⟨base, cap, h1, h2, h3.cells hK (DenRep.cells hK e)⟩
  | .pair a b, x, cs, h => by
    obtain ⟨c1, c2, h1, h2, h3⟩ := h
    exact ⟨c1, c2, h1, DenRep.cells hK a _ _ h2, DenRep.cells hK b _ _ h3⟩

mutual
def AVal.plainV : AVal → Bool
  | .bool _ => true
  | .int _ _ => true
  | .nilc => true
  | .nils _ => true
  | .imm _ _ _ => true
  | .arrv _ _ => true
  | .nilfn => true
  | .iptr cs => plainVs cs
  | .agg cs => plainVs cs
  | .tup cs => plainVs cs
  | .fn _ a b => plainVs a && plainVs b
  | _ => false
def plainVs : List AVal → Bool
  | [] => true
  | a :: us => a.plainV && plainVs us
end

mutual
theorem plain_rep {K K' : Know} {H H' : Nat → Option Hd} (hK : ∀ b cs, K.cells b = some cs → K'.cells b = some cs) : ∀ (a : AVal) (v : Value), a.plainV = true → Rep K H a v → Rep K' H' a v
  | .bool _, _, _, h => by simpa [Rep] using h
  | .int _ _, _, _, h => by simpa [Rep] using h
  | .nilc, _, _, h => by simpa [Rep] using h
  | .nils _, _, _, h => by simpa [Rep] using h
  | .nilfn, _, _, h => by simpa [Rep] using h
  | .imm _ _ _, _, _, h => by
    simp only [Rep] at h ⊢
    obtain ⟨base, cap, h1, h2, h3, h4⟩ := h
    exact ⟨base, cap, h1, h2, h3, h4.cells hK (DenRep.cells hK _)⟩
  | .arrv _ _, _, _, h => by
    simp only [Rep] at h ⊢
    obtain ⟨cs, h1, h2, h3⟩ := h
    exact ⟨cs, h1, h2, fun i hi => DenRep.cells hK _ _ _ (h3 i hi)⟩
  | .iptr cs, _, hp, h => by
    simp only [Rep] at h ⊢
    obtain ⟨b, off, arr, h1, h2, h3⟩ := h
    exact ⟨b, off, arr, h1, hK _ _ h2, plain_repL hK cs _ (by simpa [AVal.plainV] using hp) h3⟩
  | .agg cs, _, hp, h => by
    simp only [Rep] at h ⊢
    obtain ⟨c, h1, h2⟩ := h
    exact ⟨c, h1, plain_repL hK cs _ (by simpa [AVal.plainV] using hp) h2⟩
  | .tup cs, _, hp, h => by
    simp only [Rep] at h ⊢
    obtain ⟨c, h1, h2⟩ := h
    exact ⟨c, h1, plain_repL hK cs _ (by simpa [AVal.plainV] using hp) h2⟩
  | .fn f a b, _, hp, h => by
    simp only [Rep] at h ⊢
    simp only [AVal.plainV, Bool.and_eq_true] at hp
    obtain ⟨fi, ca, h1, h2, h3⟩ := h
    exact ⟨fi, ca, h1, plain_repL hK a _ hp.1 h2, plain_repL hK b _ hp.2 h3⟩
  | .unk, _, hp, _ => by simp [AVal.plainV] at hp
  | .reg _ _, _, hp, _ => by simp [AVal.plainV] at hp
  | .sub _ _ _ _, _, hp, _ => by simp [AVal.plainV] at hp
  | .ptr _ _, _, hp, _ => by simp [AVal.plainV] at hp
  | .eptr _ _ _, _, hp, _ => by simp [AVal.plainV] at hp
  | .aptr _, _, hp, _ => by simp [AVal.plainV] at hp
  | .mref _, _, hp, _ => by simp [AVal.plainV] at hp
  | .yieldv, _, hp, _ => by simp [AVal.plainV] at hp
  | .sem _, _, hp, _ => by simp [AVal.plainV] at hp
theorem plain_repL {K K' : Know} {H H' : Nat → Option Hd} (hK : ∀ b cs, K.cells b = some cs → K'.cells b = some cs) : ∀ (us : List AVal) (vs : List Value), plainVs us = true → RepL K H us vs → RepL K' H' us vs
  | [], _, _, h => by simpa [RepL] using h
  | a :: us, vs, hp, h => by
    simp only [plainVs, Bool.and_eq_true] at hp
    simp only [RepL] at h ⊢
    obtain ⟨c, cs', h1, h2, h3⟩ := h
    exact ⟨c, cs', h1, plain_rep hK a c hp.1 h2, plain_repL hK us cs' hp.2 h3⟩
end

/-! ### worlds -/
theorem world_grow {W w' : World} (h : Kept (fun b => b < W.heap.size) W w') : ∃ q os', w' = grow (W.drewN q) os' := by
  refine ⟨w'.drawn - W.drawn, w'.heap.extract W.heap.size w'.heap.size, ?_⟩
  obtain ⟨h1, h2, h3, h4, h5, h6⟩ := h
  obtain ⟨heap, tape, drawn, os, output⟩ := w'
  obtain ⟨heap0, tape0, drawn0, os0, output0⟩ := W
  simp only at h1 h2 h3 h4 h5 h6
  subst h1; subst h2; subst h3
  simp only [grow, World.drewN, World.mk.injEq, and_true, true_and]
  refine ⟨?_, by omega⟩
  apply Array.ext_getElem?
  intro i
  rw [Array.getElem?_append]
  split
  · rename_i hi; exact h5 i hi
  · rename_i hi
    rw [Array.getElem?_extract]
    split
    · congr 1; omega
    · exact Array.getElem?_eq_none (by omega)

theorem sort_heap {α : Type} [Inhabited α] (enc : α → Value) (w : World) (blk off m : Nat) (dk : Array α) (os : Array Obj) {b : Nat} (hb : b < w.heap.size) (hne : b ≠ blk) :
    (sortWorld enc w blk off m dk os).heap[b]? = w.heap[b]? := by
  unfold sortWorld
  rw [heap_grow_old _ _ (by rw [Go.Proofs.size_putRow]; exact hb)]
  unfold putRow mapBlock
  simp only [Array.getElem?_modify]
  rw [if_neg (fun e => hne e.symm)]; rfl
theorem sort_heap_at {α : Type} [Inhabited α] (enc : α → Value) (w : World) (blk off m : Nat) (dk : Array α) (os : Array Obj) {cs : Array Value} {e : TypeId} {fz : Nat × Nat} (h : w.heap[blk]? = some (.cells cs e fz)) :
    (sortWorld enc w blk off m dk os).heap[blk]? = some (.cells (putCells enc off dk cs) e fz) := by
  unfold sortWorld
  rw [heap_grow_old _ _ (by rw [Go.Proofs.size_putRow]; exact lt_of_heap h)]
  unfold putRow mapBlock
  simp only [Array.getElem?_modify, if_true]
  show Option.map _ w.heap[blk]? = _
  rw [h]; rfl
theorem sort_size {α : Type} [Inhabited α] (enc : α → Value) (w : World) (blk off m : Nat) (dk : Array α) (os : Array Obj) : w.heap.size ≤ (sortWorld enc w blk off m dk os).heap.size := by
  unfold sortWorld
  rw [size_grow, Go.Proofs.size_putRow]
  show w.heap.size ≤ w.heap.size + _
  omega

theorem sort_ok {α : Type} [Inhabited α] {F : Nat → Prop} {K : Know} {w : World} (hok : WOk F K w) (enc : α → Value) (blk off m : Nat) (dk : Array α) (os : Array Obj) (h1 : K.cells blk = none) (h2 : K.inv blk = none) : WOk F K (sortWorld enc w blk off m dk os) where
  knows := ⟨fun b cs h => by
    obtain ⟨e, fz, g⟩ := hok.knows.1 b cs h
    exact ⟨e, fz, by rw [sort_heap _ _ _ _ _ _ _ (lt_of_heap g) (fun e => by subst e; rw [h1] at h; cases h)]; exact g⟩, fun b p h => by
    obtain ⟨o, g, hp⟩ := hok.knows.2 b p h
    exact ⟨o, by rw [sort_heap _ _ _ _ _ _ _ (lt_of_heap g) (fun e => by subst e; rw [h2] at h; cases h)]; exact g, hp⟩⟩
  lt := fun b hb => Nat.lt_of_lt_of_le (hok.lt b hb) (sort_size ..)
  inv := hok.inv
  apart := hok.apart

theorem sort_kept {α : Type} [Inhabited α] {F : Nat → Prop} {K : Know} {w : World} (hok : WOk F K w) (enc : α → Value) (blk off m : Nat) (dk : Array α) (os : Array Obj) (h1 : ¬ F blk) : Kept F w (sortWorld enc w blk off m dk os) where
  os := rfl
  tape := rfl
  output := rfl
  size := sort_size ..
  block := fun b hb => sort_heap _ _ _ _ _ _ _ (hok.lt b hb) (fun e => h1 (e ▸ hb))
  drawn := Nat.le_add_right _ _

/-- The same cells, and no more. -/
def Know.bare (K : Know) : Know := ⟨K.cells, fun _ => none, none⟩
theorem wok_bare {F : Nat → Prop} {K : Know} {w : World} (h : WOk F K w) : WOk (fun b => b < w.heap.size) K.bare w where
  knows := ⟨h.knows.1, fun b p h => by cases h⟩
  lt := fun b h => h
  inv := fun b p h => by cases h
  apart := fun b p h => by cases h

theorem slab_one {cs : Array Value} {i : Nat} {v : Value} (h : slab cs i 1 = [v]) : cs[i]? = some v := by
  unfold slab at h
  have : ((cs.toList.drop i).take 1)[0]? = some v := by rw [h]; rfl
  rw [List.getElem?_take, List.getElem?_drop] at this
  simpa using this
theorem slab_of {cs : Array Value} {i : Nat} {v : Value} (h : cs[i]? = some v) : slab cs i 1 = [v] := by
  unfold slab
  apply List.ext_getElem?
  intro j
  rw [List.getElem?_take, List.getElem?_drop]
  cases j with
  | zero => simpa using h
  | succ j => simp

theorem den_cell1 {K : Know} {t : Ty} (ht : t.size = 1) {x : t.den} {cs : List Value} (h : DenRep K t x cs) : ∃ v, cs = [v] ∧ v.oneCell' = true := by
  cases t with
  | int k => exact ⟨_, h, rfl⟩
  | bool => exact ⟨_, h, rfl⟩
  | slice e =>
    obtain ⟨base, cap, h1, _⟩ := h
    exact ⟨_, h1, rfl⟩
  | pair a b =>
    have := a.size_pos; have := b.size_pos
    simp only [Ty.size] at ht
    omega

theorem repL_append {K : Know} {H : Nat → Option Hd} : ∀ {us bs : List AVal} {vs ws : List Value}, RepL K H us vs → RepL K H bs ws → RepL K H (us ++ bs) (vs ++ ws)
  | [], _, vs, _, h, k => by
    have : vs = [] := RepL.nil_iff.1 h
    subst this; exact k
  | a :: us, _, vs, _, h, k => by
    obtain ⟨x, xs, rfl, h1, h2⟩ := h.inv
    exact .cons h1 (repL_append h2 k)

/-! ### the contract -/
/-- An element, with the cell that holds it. -/
structure SEl (K : Know) (t : Ty) (l : List t.den) where
  x : t.den
  v : Value
  mem : x ∈ l
  rep : DenRep K t x [v]

theorem mrel_nil {F : Nat → Prop} {K : Know} {H : Nat → Option Hd} {w : World} : MRel F K H w (newM (fun _ => none) 0 []) :=
  ⟨fun r c f hd h => (by cases h), fun r c hd b h => (by cases h), fun r c hd b h => (by cases h), fun r r' c c' hd hd' b h => (by cases h)⟩

theorem sort_spec {P : Program} {ρ : Ren} (L : SlLaysF.n6 P ρ) {t : Ty} (h1 : t.size = 1) {g : FuncId} {caps : List AVal} (hp : plainVs caps = true) (eg : ∀ args w, (callFunc g args).run P w = .ok (.enter g args) w)
    {l : List t.den} {cf : t.den → t.den → Int} (hlen : l.length < 4611686018427387904)
    (irr : ∀ x ∈ l, ¬ cf x x < 0) (tr : ∀ x ∈ l, ∀ y ∈ l, ∀ z ∈ l, cf x y < 0 → cf y z < 0 → cf x z < 0) (ntr : ∀ x ∈ l, ∀ y ∈ l, ∀ z ∈ l, ¬ cf x y < 0 → ¬ cf y z < 0 → ¬ cf x z < 0)
    (hcmp : ∀ x ∈ l, ∀ y ∈ l, ASpec P g (t.cells x ++ (t.cells y ++ caps)) [] (fun v _ => v = .int .i64 (cf x y)))
    {full : Bool} {k : AVal → List Cont → Prop} (hk : ∀ l' : List t.den, l'.Perm l → l'.Pairwise (fun a b => ¬ cf b a < 0) → k (.tup []) [.sl t l']) :
    ASpec P (ρ.f 6) [.reg 0 full, .fn (.func g) [] caps] [.sl t l] k := by
  intro F K H w vs hok hargs hm hfr
  obtain ⟨v0, vs', rfl, hr0, hargs'⟩ := hargs.inv
  obtain ⟨v1, vs'', rfl, hr1, hargs''⟩ := hargs'.inv
  obtain rfl : vs'' = [] := RepL.nil_iff.1 hargs''
  clear hargs hargs' hargs''
  simp only [Rep] at hr0 hr1
  obtain ⟨hd, hH, rfl, hfull⟩ := hr0
  obtain ⟨fi, ca, rfl, hfi, hca⟩ := hr1
  obtain rfl : fi = #[] := by
    have := RepL.nil_iff.1 hfi
    exact Array.toList_eq_nil_iff.1 this
  clear hfi
  obtain ⟨c1, c2, c3, c4⟩ := hm.cont 0 (.sl t l) .own hd rfl (by simp) hH
  rcases Nat.eq_zero_or_pos l.length with h0 | hpos
  · have e0 : hd.len = 0 := by omega
    have el : l = [] := List.eq_nil_of_length_eq_zero h0
    subst el
    rw [e0]
    refine (AnyF.slices_SortFunc_none { L with } _ hd.cap _ w).mono ?_
    rintro e w' ⟨rfl, rfl⟩
    refine ⟨_, .tup [], [.sl t []], K, H, rfl, hk [] (.refl _) .nil, .refl K, ?_, hm, hfr, hok, .refl _ _, .refl _ _, Nat.le_refl _, fun _ _ => rfl⟩
    simp only [Rep]
    exact ⟨#[], rfl, .nil⟩
  rcases c4 with ⟨c4, c5⟩ | ⟨b, cs, e, fz, g1, g2, g3, g4⟩
  · omega
  obtain ⟨o1, o2, o3, o4⟩ := hm.own 0 (.sl t l) hd b rfl hH g1
  obtain ⟨cs', e', o5⟩ := o4 rfl
  rw [g2] at o5
  cases o5
  clear o4
  rw [h1, Nat.mul_one] at g3
  have hsz : l.length ≤ cs.size := by omega
  have hel : ∀ i (h : i < l.length), DenRep K t l[i] [cs[i]'(by omega)] := by
    intro i h
    have := g4 i h
    rw [h1, Nat.mul_one, Nat.zero_add, slab_of (Array.getElem?_eq_getElem (by omega))] at this
    exact this
  let d : Array (SEl K t l) := Array.ofFn (fun i : Fin l.length => ⟨l[i.1], cs[i.1]'(by omega), List.getElem_mem _, hel i.1 i.2⟩)
  have hds : d.size = l.length := Array.size_ofFn
  haveI : Inhabited (SEl K t l) := ⟨d[0]'(by omega)⟩
  have hdi : ∀ i (h : i < l.length), (d[i]!).x = l[i] ∧ (d[i]!).v = cs[i]'(by omega) := by
    intro i h
    rw [getElem!_pos d i (by omega)]
    simp only [d, Array.getElem_ofFn]
    exact ⟨trivial, trivial⟩
  let enc : SEl K t l → Value := SEl.v
  let cf' : SEl K t l → SEl K t l → Int := fun a b => cf a.x b.x
  have hone : OneCell enc := fun x => by
    obtain ⟨v, e1, e2⟩ := den_cell1 h1 x.rep
    cases e1; exact e2
  have hO : SWO (ltOf cf') := by
    refine ⟨fun x => ?_, fun x y z h1 h2 => ?_, fun x y z h1 h2 => ?_⟩
    · simp only [ltOf, decide_eq_false_iff_not]; exact irr _ x.mem
    · simp only [ltOf, decide_eq_true_eq] at h1 h2 ⊢; exact tr _ x.mem _ y.mem _ z.mem h1 h2
    · simp only [ltOf, decide_eq_false_iff_not] at h1 h2 ⊢; exact ntr _ x.mem _ y.mem _ z.mem h1 h2
  have hcell : Holds enc w b 0 d := by
    intro j hj
    have hj' : j < l.length := by omega
    refine ⟨?_, ?_⟩
    · unfold World.cell?
      rw [g2]
      simp only [Option.isSome_none, Bool.false_eq_true, if_false, Nat.zero_add]
      rw [Array.getElem?_eq_getElem (by omega)]
      rw [← (hdi j hj').2]
    · unfold World.frozen?
      rw [g2]
      simp
  have hcl : CmpLays1 P g ca enc cf' b 0 d.size w := by
    intro m os dk hs x y
    have hokW := sort_ok hok enc b 0 m dk os o2 o3
    generalize hW : sortWorld enc w b 0 m dk os = W at hokW
    have hr : RepL K.bare (fun _ => none) (t.cells x.x ++ (t.cells y.x ++ caps)) ([x.v] ++ ([y.v] ++ ca.toList)) :=
      repL_append (repL_cells t x.x _ (DenRep.cells (K := K) (K' := K.bare) (fun _ _ h => h) t _ _ x.rep)) (repL_append (repL_cells t y.x _ (DenRep.cells (K := K) (K' := K.bare) (fun _ _ h => h) t _ _ y.rep)) (plain_repL (K := K) (K' := K.bare) (fun _ _ h => h) caps _ hp hca))
    have := hcmp x.x x.mem y.x y.mem (fun b => b < W.heap.size) K.bare (fun _ => none) W _ (wok_bare hokW) hr mrel_nil (fun _ _ => rfl)
    have ea : ([x.v] ++ ([y.v] ++ ca.toList)).toArray = #[enc x, enc y] ++ ca := by
      apply Array.ext'
      simp [enc]
    rw [ea] at this
    refine this.mono ?_
    rintro e w' ⟨v, r, RM, K', H', rfl, rfl, _, hrep, _, _, _, hkp, _⟩
    simp only [Rep] at hrep
    subst hrep
    exact ⟨rfl, world_grow hkp⟩
  have hblk : b < w.heap.size := lt_of_heap g2
  have := Any.slices_SortFunc L enc hone cf' hO g ca b 0 hd.cap d w eg hcl hcell hblk (by omega)
  rw [g1]
  have ev : hd.len = d.size := by omega
  rw [ev]
  refine this.mono ?_
  rintro e2 w' ⟨rfl, d', n, os, hperm, hsort, rfl⟩
  obtain ⟨p1, p2, p3⟩ := hperm
  have q1 : d'.extract 0 d.size = d' := by rw [← p1]; exact Array.extract_size
  have q2 : d.extract 0 d.size = d := Array.extract_size
  rw [q1, q2] at p3
  have hdl : d.toList.map SEl.x = l := by
    apply List.ext_getElem
    · simp [hds]
    · intro i h1 h2
      rw [List.getElem_map]
      have := (hdi i h2).1
      rw [getElem!_pos d i (by omega)] at this
      rw [← this]; simp
  let l' : List t.den := d'.toList.map SEl.x
  have hl' : l'.length = l.length := by simp [l', p1, hds]
  have hpl : l'.Perm l := by
    have := p3.map SEl.x
    rw [hdl] at this
    exact this
  have hpw : l'.Pairwise (fun a b => ¬ cf b a < 0) := by
    rw [List.pairwise_iff_getElem]
    intro i j hi hj hij
    have := hsort i j (Nat.zero_le _) hij (by omega)
    rw [getElem!_pos d' i (by omega), getElem!_pos d' j (by omega)] at this
    simp only [ltOf, cf', decide_eq_false_iff_not] at this
    simpa [l'] using this
  have hcont : ContRel K H (sortWorld enc w b 0 n d' os) hd (.sl t l') := by
    refine ⟨c1, by omega, c3, .inr ⟨b, _, _, (0, 0), g1, sort_heap_at enc w b 0 n d' os g2, ?_, ?_⟩⟩
    · rw [h1, Nat.mul_one]; simpa [putCells] using g3
    · intro i hi
      have hi2 : i < d'.size := by omega
      have : (putCells enc 0 d' cs)[i]? = some (d'[i]).v := by
        simp only [putCells, Array.getElem?_mapIdx, Nat.zero_add, Nat.zero_le, true_and, Nat.sub_zero]
        rw [Array.getElem?_eq_getElem (by omega), Option.map_some, if_pos hi2, getElem!_pos d' i hi2]
      rw [h1, Nat.mul_one, Nat.zero_add, slab_of this]
      have e3 : l'[i] = (d'[i]).x := by simp [l']
      rw [e3]
      exact (d'[i]).rep
  refine ⟨_, .tup [], [.sl t l'], K, H, rfl, hk l' hpl hpw, .refl K, ?_, ?_, hfr, sort_ok hok enc b 0 n d' os o2 o3, sort_kept hok enc b 0 n d' os o1, .refl _ _, Nat.le_refl _, fun _ _ => rfl⟩
  · simp only [Rep]
    exact ⟨#[], rfl, .nil⟩
  have only : ∀ {r : Nat} {c : Cont} {f : Flag}, newM (fun _ => none) 0 [Cont.sl t l'] r = some (c, f) → r = 0 ∧ c = .sl t l' ∧ f = .own := by
    intro r c f h
    have h' : upd (fun _ => none) 0 (Cont.sl t l', Flag.own) r = some (c, f) := h
    by_cases hr : r = 0
    · subst hr; rw [upd_same] at h'; cases h'; exact ⟨rfl, rfl, rfl⟩
    · rw [upd_ne _ _ _ _ hr] at h'; cases h'
  refine ⟨?_, ?_, ?_, ?_⟩
  · intro r c f hd' h2 _ h3
    obtain ⟨rfl, rfl, rfl⟩ := only h2
    rw [hH] at h3; cases h3
    exact hcont
  · intro r c hd' b' h2 h3 h4
    obtain ⟨rfl, rfl, _⟩ := only h2
    rw [hH] at h3; cases h3
    rw [g1] at h4; cases h4
    exact ⟨o1, o2, o3, fun _ => ⟨_, _, sort_heap_at enc w b 0 n d' os g2⟩⟩
  · intro r c hd' b' h2
    obtain ⟨_, _, h3⟩ := only h2
    cases h3
  · intro r r' c c' hd1 hd2 b' h2 h3
    rw [(only h2).1, (only h3).1]; intros; rfl
end Go.Abs
end

section
/- The library's SortFunc, at structs: its contract over regions handed to it. -/
namespace Go.Abs
open Go.Proofs Go.Shelf Go.Sort

theorem den_all {K : Know} : ∀ (t : Ty) (x : t.den) (cs : List Value), DenRep K t x cs → ∀ v ∈ cs, v.oneCell' = true
  | .int k, x, cs, h => fun v hv => by
    have h : cs = [Value.int k x] := h
    subst h; simp at hv; subst hv; rfl
  | .bool, x, cs, h => fun v hv => by
    have h : cs = [Value.bool x] := h
    subst h; simp at hv; subst hv; rfl
  | .slice e, x, cs, h => fun v hv => by
    obtain ⟨base, cap, h1, _⟩ := h
    subst h1; simp at hv; subst hv; rfl
  | .pair a b, x, cs, h => fun v hv => by
    obtain ⟨c1, c2, rfl, h1, h2⟩ := h
    rcases List.mem_append.1 hv with hv | hv
    · exact den_all a _ _ h1 v hv
    · exact den_all b _ _ h2 v hv

/-- An element, with the cells that hold it. -/
structure SElK (K : Know) (t : Ty) (l : List t.den) where
  x : t.den
  vs : List Value
  mem : x ∈ l
  rep : DenRep K t x vs

theorem slab_getK {cs : Array Value} {o n j : Nat} (hj : j < n) (_ : o + n ≤ cs.size) : (slab cs o n)[j]? = cs[o + j]? := by
  unfold slab
  rw [List.getElem?_take, if_pos hj, List.getElem?_drop, Array.getElem?_toList]
theorem slab_lenK {cs : Array Value} {o n : Nat} (h : o + n ≤ cs.size) : (slab cs o n).length = n := by
  unfold slab; simp; omega

theorem sort_specK {P : Program} {ρ : Ren} (L : SlLaysF0.n6 P ρ) {t : Ty} (aE : ∀ w, (isAgg (ρ.t 24)).run P w = .ok true w) (zE : ∀ w, (Go.sizeOf (ρ.t 24)).run P w = .ok t.size w)
    {g : FuncId} {caps : List AVal} (hp : plainVs caps = true) (eg : ∀ args w, (callFunc g args).run P w = .ok (.enter g args) w)
    {l : List t.den} {cf : t.den → t.den → Int} (hlen : l.length < 4611686018427387904)
    (irr : ∀ x ∈ l, ¬ cf x x < 0) (tr : ∀ x ∈ l, ∀ y ∈ l, ∀ z ∈ l, cf x y < 0 → cf y z < 0 → cf x z < 0) (ntr : ∀ x ∈ l, ∀ y ∈ l, ∀ z ∈ l, ¬ cf x y < 0 → ¬ cf y z < 0 → ¬ cf x z < 0)
    (hcmp : ∀ x ∈ l, ∀ y ∈ l, ASpec P g (.agg (t.cells x) :: .agg (t.cells y) :: caps) [] (fun v _ => v = .int .i64 (cf x y)))
    {full : Bool} {k : AVal → List Cont → Prop} (hk : ∀ l' : List t.den, l'.Perm l → l'.Pairwise (fun a b => ¬ cf b a < 0) → k (.tup []) [.sl t l']) :
    ASpec P (ρ.f 6) [.reg 0 full, .fn (.func g) [] caps] [.sl t l] k := by
  intro F K H w vs hok hargs hm hfr
  obtain ⟨v0, vs', rfl, hr0, hargs'⟩ := hargs.inv
  obtain ⟨v1, vs'', rfl, hr1, hargs''⟩ := hargs'.inv
  obtain rfl : vs'' = [] := RepL.nil_iff.1 hargs''
  clear hargs hargs' hargs''
  simp only [Rep] at hr0 hr1
  obtain ⟨hd, hH, rfl, hfull⟩ := hr0
  obtain ⟨fi, ca, rfl, hfi, hca⟩ := hr1
  obtain rfl : fi = #[] := by
    have := RepL.nil_iff.1 hfi
    exact Array.toList_eq_nil_iff.1 this
  clear hfi
  obtain ⟨c1, c2, c3, c4⟩ := hm.cont 0 (.sl t l) .own hd rfl (by simp) hH
  rcases Nat.eq_zero_or_pos l.length with h0 | hpos
  · have e0 : hd.len = 0 := by omega
    have el : l = [] := List.eq_nil_of_length_eq_zero h0
    subst el
    rw [e0]
    refine (AnyF.slices_SortFunc_none L _ hd.cap _ w).mono ?_
    rintro e w' ⟨rfl, rfl⟩
    refine ⟨_, .tup [], [.sl t []], K, H, rfl, hk [] (.refl _) .nil, .refl K, ?_, hm, hfr, hok, .refl _ _, .refl _ _, Nat.le_refl _, fun _ _ => rfl⟩
    simp only [Rep]
    exact ⟨#[], rfl, .nil⟩
  rcases c4 with ⟨c4, c5⟩ | ⟨b, cs, e, fz, g1, g2, g3, g4⟩
  · omega
  obtain ⟨o1, o2, o3, o4⟩ := hm.own 0 (.sl t l) hd b rfl hH g1
  obtain ⟨cs', e', o5⟩ := o4 rfl
  rw [g2] at o5
  cases o5
  clear o4
  have kpos := t.size_pos
  have hsz : l.length * t.size ≤ cs.size := Nat.le_trans (Nat.mul_le_mul_right _ (by omega)) g3
  have hin : ∀ i, i < l.length → i * t.size + t.size ≤ cs.size := by
    intro i h
    have : (i + 1) * t.size ≤ l.length * t.size := Nat.mul_le_mul_right _ h
    rw [Nat.add_mul, Nat.one_mul] at this
    omega
  have hel : ∀ i (h : i < l.length), DenRep K t l[i] (slab cs (i * t.size) t.size) := by
    intro i h
    have := g4 i h
    rw [Nat.zero_add] at this
    exact this
  let d : Array (SElK K t l) := Array.ofFn (fun i : Fin l.length => ⟨l[i.1], slab cs (i.1 * t.size) t.size, List.getElem_mem _, hel i.1 i.2⟩)
  have hds : d.size = l.length := Array.size_ofFn
  haveI : Inhabited (SElK K t l) := ⟨d[0]'(by omega)⟩
  have hdi : ∀ i (h : i < l.length), (d[i]!).x = l[i] ∧ (d[i]!).vs = slab cs (i * t.size) t.size := by
    intro i h
    rw [getElem!_pos d i (by omega)]
    simp only [d, Array.getElem_ofFn]
    exact ⟨trivial, trivial⟩
  let enc : SElK K t l → List Value := SElK.vs
  let cf' : SElK K t l → SElK K t l → Int := fun a b => cf a.x b.x
  have hlenK : ∀ x : SElK K t l, (enc x).length = t.size := fun x => DenRep.length t x.x x.vs x.rep
  have hone : ∀ x : SElK K t l, ∀ v ∈ enc x, v.oneCell' = true := fun x => den_all t x.x x.vs x.rep
  have hO : SWO (ltOf cf') := by
    refine ⟨fun x => ?_, fun x y z h1 h2 => ?_, fun x y z h1 h2 => ?_⟩
    · simp only [ltOf, decide_eq_false_iff_not]; exact irr _ x.mem
    · simp only [ltOf, decide_eq_true_eq] at h1 h2 ⊢; exact tr _ x.mem _ y.mem _ z.mem h1 h2
    · simp only [ltOf, decide_eq_false_iff_not] at h1 h2 ⊢; exact ntr _ x.mem _ y.mem _ z.mem h1 h2
  have hcell : HoldsK enc t.size w b 0 d := by
    intro j hj
    rw [size_flatK] at hj
    rw [get_flatK _ _ _ _ hj, hds] at *
    have hq : j / t.size < l.length := by
      rw [Nat.div_lt_iff_lt_mul kpos]; rw [hds] at hj; exact hj
    have hr : j % t.size < t.size := Nat.mod_lt _ kpos
    have hdm : j / t.size * t.size + j % t.size = j := by rw [Nat.mul_comm]; exact Nat.div_add_mod j t.size
    have hjc := hin _ hq
    refine ⟨?_, ?_⟩
    · unfold World.cell?
      rw [g2]
      simp only [Option.isSome_none, Bool.false_eq_true, if_false, Nat.zero_add, id]
      have e1 : enc d[j / t.size]! = slab cs (j / t.size * t.size) t.size := (hdi _ hq).2
      have e2 := slab_getK hr hjc
      rw [hdm] at e2
      rw [e1, ← e2]
      have hl := slab_lenK hjc
      rw [List.getElem?_eq_getElem (by omega), getElem!_pos _ _ (by omega)]
    · unfold World.frozen?
      rw [g2]
      simp
  have hcl : CmpLays P g ca enc t.size cf' b 0 d.size w := by
    intro m os dk hs x y
    have hokW : WOk F K (sortWorldK enc t.size w b 0 m dk os) := sort_ok hok id b 0 m (flatK enc t.size dk) os o2 o3
    generalize hW : sortWorldK enc t.size w b 0 m dk os = W at hokW
    have hx : Rep K.bare (fun _ => none) (.agg (t.cells x.x)) (.agg x.vs.toArray) := by
      simp only [Rep]
      exact ⟨_, rfl, repL_cells t x.x _ (DenRep.cells (K := K) (K' := K.bare) (fun _ _ h => h) t _ _ x.rep)⟩
    have hy : Rep K.bare (fun _ => none) (.agg (t.cells y.x)) (.agg y.vs.toArray) := by
      simp only [Rep]
      exact ⟨_, rfl, repL_cells t y.x _ (DenRep.cells (K := K) (K' := K.bare) (fun _ _ h => h) t _ _ y.rep)⟩
    have hr : RepL K.bare (fun _ => none) (.agg (t.cells x.x) :: .agg (t.cells y.x) :: caps) (.agg x.vs.toArray :: .agg y.vs.toArray :: ca.toList) :=
      .cons hx (.cons hy (plain_repL (K := K) (K' := K.bare) (fun _ _ h => h) caps _ hp hca))
    have := hcmp x.x x.mem y.x y.mem (fun b => b < W.heap.size) K.bare (fun _ => none) W _ (wok_bare hokW) hr mrel_nil (fun _ _ => rfl)
    have ea : (Value.agg x.vs.toArray :: Value.agg y.vs.toArray :: ca.toList).toArray = #[Value.agg (enc x).toArray, Value.agg (enc y).toArray] ++ ca := by
      apply Array.ext'
      simp [enc]
    rw [ea] at this
    refine this.mono ?_
    rintro e w' ⟨v, r, RM, K', H', rfl, rfl, _, hrep, _, _, _, hkp, _⟩
    simp only [Rep] at hrep
    subst hrep
    exact ⟨rfl, world_grow hkp⟩
  have hblk : b < w.heap.size := lt_of_heap g2
  have := AnyQ.slices_SortFunc L t.size aE zE enc hlenK hone cf' hO g ca b 0 hd.cap d w eg hcl hcell hblk (by omega)
  rw [g1]
  have ev : hd.len = d.size := by omega
  rw [ev]
  refine this.mono ?_
  rintro e2 w' ⟨rfl, d', n, os, hperm, hsort, rfl⟩
  obtain ⟨p1, p2, p3⟩ := hperm
  have q1 : d'.extract 0 d.size = d' := by rw [← p1]; exact Array.extract_size
  have q2 : d.extract 0 d.size = d := Array.extract_size
  rw [q1, q2] at p3
  have hdl : d.toList.map SElK.x = l := by
    apply List.ext_getElem
    · simp [hds]
    · intro i h1 h2
      rw [List.getElem_map]
      have := (hdi i h2).1
      rw [getElem!_pos d i (by omega)] at this
      rw [← this]; simp
  let l' : List t.den := d'.toList.map SElK.x
  have hl' : l'.length = l.length := by simp [l', p1, hds]
  have hpl : l'.Perm l := by
    have := p3.map SElK.x
    rw [hdl] at this
    exact this
  have hpw : l'.Pairwise (fun a b => ¬ cf b a < 0) := by
    rw [List.pairwise_iff_getElem]
    intro i j hi hj hij
    have := hsort i j (Nat.zero_le _) hij (by omega)
    rw [getElem!_pos d' i (by omega), getElem!_pos d' j (by omega)] at this
    simp only [ltOf, cf', decide_eq_false_iff_not] at this
    simpa [l'] using this
  have hheap := sort_heap_at (α := Value) id w b 0 n (flatK enc t.size d') os g2
  have hcont : ContRel K H (sortWorldK enc t.size w b 0 n d' os) hd (.sl t l') := by
    refine ⟨c1, by omega, c3, .inr ⟨b, _, _, (0, 0), g1, hheap, ?_, ?_⟩⟩
    · simpa [putCells] using g3
    · intro i hi
      have hi2 : i < d'.size := by omega
      have hi3 : i < l.length := by omega
      have hic := hin i hi3
      have e3 : l'[i] = (d'[i]).x := by simp [l']
      have es : slab (putCells id 0 (flatK enc t.size d') cs) (0 + i * t.size) t.size = (d'[i]).vs := by
        have hvl : (d'[i]).vs.length = t.size := hlenK d'[i]
        have hsz2 : (putCells id 0 (flatK enc t.size d') cs).size = cs.size := by simp [putCells]
        rw [Nat.zero_add]
        apply List.ext_getElem?
        intro j
        rcases Nat.lt_or_ge j t.size with hj | hj
        · rw [slab_getK hj (by omega)]
          have hfl : i * t.size + j < d'.size * t.size := by
            have : (i + 1) * t.size ≤ d'.size * t.size := Nat.mul_le_mul_right _ hi2
            rw [Nat.add_mul, Nat.one_mul] at this
            omega
          have hdiv : (i * t.size + j) / t.size = i := by
            rw [Nat.mul_comm, Nat.mul_add_div kpos, Nat.div_eq_of_lt hj, Nat.add_zero]
          have hmod : (i * t.size + j) % t.size = j := by
            rw [Nat.mul_comm, Nat.mul_add_mod, Nat.mod_eq_of_lt hj]
          simp only [putCells, Array.getElem?_mapIdx, Nat.zero_add, Nat.zero_le, true_and, Nat.sub_zero, size_flatK]
          rw [Array.getElem?_eq_getElem (by omega), Option.map_some, if_pos hfl, get_flatK _ _ _ _ hfl, hdiv, hmod, getElem!_pos d' i hi2, id, List.getElem?_eq_getElem (by omega)]
          rw [getElem!_pos _ _ (by show j < (d'[i]).vs.length; omega)]
        · rw [List.getElem?_eq_none (by rw [slab_lenK (by omega)]; exact hj), List.getElem?_eq_none (by omega)]
      rw [es, e3]
      exact (d'[i]).rep
  refine ⟨_, .tup [], [.sl t l'], K, H, rfl, hk l' hpl hpw, .refl K, ?_, ?_, hfr, sort_ok hok id b 0 n (flatK enc t.size d') os o2 o3, sort_kept hok id b 0 n (flatK enc t.size d') os o1, .refl _ _, Nat.le_refl _, fun _ _ => rfl⟩
  · simp only [Rep]
    exact ⟨#[], rfl, .nil⟩
  have only : ∀ {r : Nat} {c : Cont} {f : Flag}, newM (fun _ => none) 0 [Cont.sl t l'] r = some (c, f) → r = 0 ∧ c = .sl t l' ∧ f = .own := by
    intro r c f h
    have h' : upd (fun _ => none) 0 (Cont.sl t l', Flag.own) r = some (c, f) := h
    by_cases hr : r = 0
    · subst hr; rw [upd_same] at h'; cases h'; exact ⟨rfl, rfl, rfl⟩
    · rw [upd_ne _ _ _ _ hr] at h'; cases h'
  refine ⟨?_, ?_, ?_, ?_⟩
  · intro r c f hd' h2 _ h3
    obtain ⟨rfl, rfl, rfl⟩ := only h2
    rw [hH] at h3; cases h3
    exact hcont
  · intro r c hd' b' h2 h3 h4
    obtain ⟨rfl, rfl, _⟩ := only h2
    rw [hH] at h3; cases h3
    rw [g1] at h4; cases h4
    exact ⟨o1, o2, o3, fun _ => ⟨_, _, hheap⟩⟩
  · intro r c hd' b' h2
    obtain ⟨_, _, h3⟩ := only h2
    cases h3
  · intro r r' c c' hd1 hd2 b' h2 h3
    rw [(only h2).1, (only h3).1]; intros; rfl
end Go.Abs
end

section
/- The farm's functions keep their contracts: claims, in order. -/
open Go.Proofs
set_option maxRecDepth 100000
set_option linter.unusedVariables false
namespace Go.Abs.Farm

theorem perm_unique {α : Type} (R : α → α → Prop) (anti : ∀ a b, R a b → R b a → a = b) : ∀ (l l' : List α), l.Perm l' → l.Pairwise R → l'.Pairwise R → l = l'
  | [], l', h, _, _ => h.nil_eq
  | a :: l, [], h, _, _ => by have := h.length_eq; simp at this
  | a :: l, b :: l', h, h1, h2 => by
    obtain ⟨g1, g2⟩ := List.pairwise_cons.1 h1
    obtain ⟨g3, g4⟩ := List.pairwise_cons.1 h2
    have e : a = b := by
      rcases List.mem_cons.1 (h.subset (List.mem_cons_self ..)) with e | ha
      · exact e
      rcases List.mem_cons.1 (h.symm.subset (List.mem_cons_self ..)) with e | hb
      · exact e.symm
      exact anti a b (g1 b hb) (g3 a ha)
    subst e
    rw [perm_unique R anti l l' (List.perm_cons a |>.1 h) g2 g4]
/-- .. where what is asked holds of the members alone. -/
theorem perm_unique_on {α : Type} (R : α → α → Prop) (p : α → Prop) (anti : ∀ a b, p a → p b → R a b → R b a → a = b) (l l' : List α) (hp : ∀ a ∈ l, p a) (h : l.Perm l') (h1 : l.Pairwise R) (h2 : l'.Pairwise R) : l = l' := by
  refine perm_unique (fun a b => p a ∧ p b ∧ R a b) (fun a b h3 h4 => anti a b h3.1 h3.2.1 h3.2.2 h4.2.2) l l' h ?_ ?_
  · exact List.Pairwise.imp_of_mem (fun ha hb h3 => ⟨hp _ ha, hp _ hb, h3⟩) h1
  · exact List.Pairwise.imp_of_mem (fun ha hb h3 => ⟨hp _ (h.symm.subset ha), hp _ (h.symm.subset hb), h3⟩) h2

theorem not_bef {cl : List Int} {x y z : Int × Int} (hx : 0 < x.2) (hy : 0 < y.2) (hz : 0 < z.2) (h1 : ¬ Bef cl x y) (h2 : ¬ Bef cl y z) : ¬ Bef cl x z := by
  intro h
  by_cases e1 : x = y
  · subst e1; exact h2 h
  by_cases e2 : y = z
  · subst e2; exact h1 h
  have a := (bef_total e1).resolve_left h1
  have b := (bef_total e2).resolve_left h2
  exact bef_irr cl _ (bef_tr hx hz hx h (bef_tr hz hy hx b a))
theorem bef_anti {cl : List Int} {x y : Int × Int} (h1 : ¬ Bef cl y x) (h2 : ¬ Bef cl x y) : x = y := by
  by_cases e : x = y
  · exact e
  · rcases bef_total (cl := cl) e with h | h
    · exact absurd h h2
    · exact absurd h h1

theorem sort_pair (cl : List Int) {l : List (Int × Int)} (hp : ∀ a ∈ l, 0 < a.2) : (l.mergeSort (fun a b => !decide (cmpC cl b a < 0))).Pairwise (fun a b => ¬ cmpC cl b a < 0) := by
  -- sorted among those whose coins are right
  let q : Int × Int → Int × Int → Bool := fun a b => !decide (cmpC cl b a < 0)
  have := List.pairwise_mergeSort (le := fun (a b : {a : Int × Int // 0 < a.2}) => q a.1 b.1) (fun a b c h1 h2 => by
    simp only [q, Bool.not_eq_true', decide_eq_false_iff_not, cmp_bef] at h1 h2 ⊢
    exact not_bef c.2 b.2 a.2 h2 h1) (fun a b => by
    simp only [q, Bool.or_eq_true, Bool.not_eq_true', decide_eq_false_iff_not, cmp_bef]
    by_cases h : Bef cl b.1 a.1
    · right; intro h2; exact bef_irr cl _ (bef_tr a.2 b.2 a.2 h2 h)
    · left; exact h) (l.attachWith _ hp)
  have e : l.mergeSort q = ((l.attachWith _ hp).mergeSort (fun a b => q a.1 b.1)).map Subtype.val := by
    rw [List.map_mergeSort (s := q) (fun a _ b _ => rfl)]
    congr 1
    exact (List.attachWith_map_subtype_val _).symm
  show (l.mergeSort q).Pairwise _
  rw [e, List.pairwise_map]
  exact this.imp (fun h => by simpa [q] using h)

theorem k81 (hG : Good Try.prog (envOf [(67, mkC [v67]), (82, mkC [v82])])) : v81.Kept Try.prog 81 := by
  rintro ⟨pr, cl, l, ⟨⟩⟩ ⟨h1, h2, h3⟩ k hk
  change List Int at cl
  change List (Int × Int) at l
  have h1 : smallC cl := h1
  have h2 : allInC cl l := h2
  have h3 : l.length ≤ 100000 := h3
  have hpos : ∀ a : Int × Int, a ∈ l → 0 < a.2 := fun a ha => by have := h2 a ha; omega
  have irr : ∀ x : Int × Int, x ∈ l → ¬ cmpC cl x x < 0 := fun x _ => by rw [cmp_bef]; exact bef_irr cl x
  have tr : ∀ x : Int × Int, x ∈ l → ∀ y : Int × Int, y ∈ l → ∀ z : Int × Int, z ∈ l → cmpC cl x y < 0 → cmpC cl y z < 0 → cmpC cl x z < 0 := fun x hx y hy z hz => by rw [cmp_bef, cmp_bef, cmp_bef]; exact bef_tr (hpos x hx) (hpos y hy) (hpos z hz)
  have ntr : ∀ x : Int × Int, x ∈ l → ∀ y : Int × Int, y ∈ l → ∀ z : Int × Int, z ∈ l → ¬ cmpC cl x y < 0 → ¬ cmpC cl y z < 0 → ¬ cmpC cl x z < 0 := fun x hx y hy z hz => by rw [cmp_bef, cmp_bef, cmp_bef]; exact not_bef (hpos x hx) (hpos y hy) (hpos z hz)
  refine sort_specK Try.laySort (t := .pair (.int .i64) (.int .i64)) (fun w => Try.isAgg83 w) (fun w => Try.sizeOf83 w) (g := 82) (caps := [.iptr [.fn (.func 67) [purse pr cl] []]]) rfl (hG.call 82 _ rfl) (l := l) (cf := cmpC cl) (Nat.lt_of_le_of_lt h3 (by decide))
    irr tr ntr (fun x hx y hy => ?_) (full := false) (fun l' g1 g2 => ?_)
  · have px : (0 : Int) ≤ x.2 := Int.le_of_lt (hpos x hx)
    have py : (0 : Int) ≤ y.2 := Int.le_of_lt (hpos y hy)
    have hx := h2 x hx
    have hy := h2 y hy
    refine hG.spec 82 _ rfl _ [] _ ⟨?_, ?_⟩
    · exact ⟨h1, ⟨hx.1, hx.2.1, px, hx.2.2.2⟩, ⟨hy.1, hy.2.1, py, hy.2.2.2⟩⟩
    · show (rI (cmpC cl (x.1, x.2) (y.1, y.2))) = _
      rfl
  · have e : l' = l.mergeSort (fun a b => !decide (cmpC cl b a < 0)) :=
      perm_unique_on (fun a b => ¬ cmpC cl b a < 0) (fun a => 0 < a.2) (fun a b _ _ h4 h5 => bef_anti (by rwa [cmp_bef] at h4) (by rwa [cmp_bef] at h5)) l' _ (fun a ha => hpos a (g1.subset ha)) (g1.trans (List.mergeSort_perm _ _).symm) g2 (sort_pair cl hpos)
    rw [e]
    exact hk

theorem k61 (hG : Good Try.prog (envOf [(79, mkC [v79]), (80, mkC [v80]), (81, mkC [v81]), (67, mkC [v67]), (82, mkC [v82])])) : v61.Kept Try.prog 61 := by
  rintro ⟨pr, cl, n, ⟨⟩⟩ hpre k hk
  change Int at pr
  change List Int at cl
  change Int at n
  refine aspec hmix hG Try.func61 tx61 (Eq.mpr (eq61 pr cl n k) ?_)
  replace hk : k (.reg 0 false) [.sl (.pair (.int .i64) (.int .i64)) (claimsOf cl n)] := hk
  unfold vc61
  obtain ⟨⟨hl, hx⟩, hn0, hn1⟩ := hpre
  have hl : cl.length ≤ 20 := hl
  have hn0 : 0 ≤ n := hn0
  have hn1 : n ≤ 1000 := hn1
  refine ⟨trivial, ⟨⟨hl, hx⟩, hn0, hn1⟩, ⟨⟨hl, hx⟩, fun a ha => ?_, ?_⟩, hk⟩
  · have := allC_mem.1 ha
    exact ⟨this.1, this.2.1, this.2.2.1, by omega⟩
  · show (allC cl n).length ≤ 100000
    rw [allC_len]
    have : cl.length * n.toNat ≤ 20 * 1000 := Nat.mul_le_mul hl (by omega)
    omega
end Go.Abs.Farm
end

section
/- The farm's functions keep their contracts: the definition of fair shares. -/
open Go.Proofs
set_option maxRecDepth 100000
set_option linter.unusedVariables false
namespace Go.Abs.Farm

def bestTo (cl s : List Int) (i : Nat) : Nat := (List.range i).foldl (nextStep cl s) 0
theorem bestTo_succ (cl s : List Int) (i : Nat) : bestTo cl s (i + 1) = nextStep cl s (bestTo cl s i) i := by
  unfold bestTo; rw [List.range_succ, List.foldl_append]; rfl
theorem bestTo_lt (cl s : List Int) : ∀ i, bestTo cl s (i + 1) ≤ i
  | 0 => by rw [bestTo_succ]; unfold nextStep bestTo; split <;> simp
  | i + 1 => by
    have := bestTo_lt cl s i
    rw [bestTo_succ]; unfold nextStep; split <;> omega
theorem bestTo_one (cl s : List Int) : bestTo cl s 1 = 0 := Nat.le_zero.1 (bestTo_lt cl s 0)

theorem k62 (hG : Good Try.prog (envOf [])) : v62.Kept Try.prog 62 := by
  rintro ⟨cl, s, ⟨⟩⟩ hpre k hk
  change List Int at cl s
  refine aspec hmix hG Try.func62 tx62 (Eq.mpr (eq62 cl s k) ?_)
  replace hk : k (rI (nextOf cl s : Int)) [] := hk
  unfold vc62
  obtain ⟨hl, h0, hs, hc, hsx⟩ := hpre
  have hl : cl.length ≤ 20 := hl
  have h0 : 0 < cl.length := h0
  have hs : s.length = cl.length := hs
  have hc : ∀ x ∈ cl, (0 : Int) ≤ x ∧ x ≤ 1000 := hc
  have hsx : ∀ x ∈ s, (0 : Int) ≤ x ∧ x ≤ 1000 := hsx
  refine Loop.upto (fun i => (cl, s, ((bestTo cl s (i + 1) : Nat) : Int), ((i + 1 : Nat) : Int), ())) (fun i => True) (cl.length - 1) ?_ trivial ?_ ?_
  · show (cl, s, ((bestTo cl s 1 : Nat) : Int), ((0 + 1 : Nat) : Int), ()) = _
    rw [bestTo_one]; rfl
  · intro i K hi _ hK
    dsimp only
    rw [br_decide]
    refine ⟨fun _ => ?_, fun h => absurd hi (by omega)⟩
    have hK := hK trivial
    have hb := bestTo_lt cl s i
    rw [bestTo_succ cl s (i + 1)] at hK
    have hi1 : i + 1 < cl.length := by omega
    have ei : ((i + 1 : Nat) : Int).toNat = i + 1 := Int.toNat_natCast _
    generalize bestTo cl s (i + 1) = b at hK hb ⊢
    have hbl : b < cl.length := by omega
    have x1 := hc _ (List.getElem_mem hi1)
    have x2 := hc _ (List.getElem_mem hbl)
    have y1 := hsx _ (List.getElem_mem (show i + 1 < s.length by omega))
    have y2 := hsx _ (List.getElem_mem (show b < s.length by omega))
    have m1 := mul_small x1.1 x1.2 (b := s[b]'(by omega) + 1) (by omega) (by omega)
    have m2 := mul_small x2.1 x2.2 (b := s[i + 1]'(by omega) + 1) (by omega) (by omega)
    simp only [Int.toNat_natCast]
    refine ⟨⟨by omega, hi1⟩, ⟨by omega, by omega⟩, fits64 (by omega) (by omega), fits64 (by omega) (by omega), ⟨by omega, hbl⟩, ⟨by omega, by omega⟩, fits64 (by omega) (by omega), fits64 (by omega) (by omega), ?_⟩
    unfold nextStep at hK
    rw [getD_at hi1, getD_at (show b < s.length by omega), getD_at hbl, getD_at (show i + 1 < s.length by omega)] at hK
    rw [br_decide]
    refine ⟨fun h => ⟨fits64 (by omega) (by omega), ?_⟩, fun h => ⟨fits64 (by omega) (by omega), ?_⟩⟩
    · rw [if_pos h] at hK; exact hK
    · rw [if_neg h] at hK; exact hK
  · intro K _
    dsimp only
    rw [br_decide]
    refine ⟨fun h => absurd h (by omega), fun _ => ?_⟩
    rw [show cl.length - 1 + 1 = cl.length by omega]
    exact hk

theorem fine_spec {pr : Int} {cl : List Int} (h : yearErr pr cl = 0) : 0 ≤ pr ∧ pr ≤ 200 ∧ 1 ≤ cl.length ∧ cl.length ≤ 8 ∧ (∀ x ∈ cl, 0 ≤ x ∧ x ≤ 100) ∧ sumL cl ≠ 0 := by
  unfold yearErr at h
  split at h
  · rename_i h1; exact absurd h h1
  · rename_i h1
    have hz : sized pr (cl.length : Int) = 0 := by omega
    obtain ⟨s1, s2, s3, s4⟩ := sized_zero hz
    split at h
    · omega
    · rename_i h2
      split at h
      · omega
      · rename_i h3
        exact ⟨s1, s2, by omega, by omega, not_any (by simpa using h2), h3⟩
theorem fair_in {cl : List Int} {n : Nat} (hn : n ≤ 1000) : ∀ x ∈ fairUp cl n, (0 : Int) ≤ x ∧ x ≤ 1000 := by
  intro x hx
  obtain ⟨i, hi, rfl⟩ := List.getElem_of_mem hx
  have := fairUp_get cl n i
  rw [getD_at hi] at this
  omega

theorem k60 (hG : Good Try.prog (envOf [(62, mkC [v62])])) : v60.Kept Try.prog 60 := by
  rintro ⟨pr, cl, ⟨⟩⟩ hpre k hk
  change Int at pr
  change List Int at cl
  refine aspec hmix hG Try.func60 tx60 (Eq.mpr (eq60 pr cl k) ?_)
  replace hk : k (.reg 0 false) [.sl (.int .i64) (fairOf pr cl)] := hk
  unfold vc60
  have hf : yearErr pr cl = 0 := hpre
  obtain ⟨f1, f2, f3, f4, f5, f6⟩ := fine_spec hf
  refine ⟨⟨by omega, rfl, by simp only [big]; omega⟩, ?_⟩
  refine Loop.upto (fun i => ((i : Int), pr, cl, fairUp cl i, ())) (fun i => True) pr.toNat rfl trivial ?_ ?_
  · intro i K hi hp hK
    dsimp only
    rw [br_decide]
    refine ⟨fun _ => ?_, fun h => absurd hi (by omega)⟩
    try simp only [Int.toNat_natCast]
    have hK := hK trivial
    have hlen := fairUp_len cl i
    obtain ⟨hq, _⟩ := nextOf_spec (cl := cl) (fun j => (fairUp_get cl i j).1) (by omega)
    have hg := fairUp_get cl i (nextOf cl (fairUp cl i))
    have e : fairUp cl (i + 1) = (fairUp cl i).set (nextOf cl (fairUp cl i)) ((fairUp cl i).getD (nextOf cl (fairUp cl i)) 0 + 1) := rfl
    rw [e] at hK
    have hql : nextOf cl (fairUp cl i) < (fairUp cl i).length := by omega
    rw [getD_at hql] at hK hg
    refine ⟨⟨by show cl.length ≤ 20; omega, by show 0 < cl.length; omega, hlen, fun x hx => ⟨(f5 x hx).1, by have := (f5 x hx).2; omega⟩, fair_in (by omega)⟩, ⟨by omega, hql⟩, hql, fits64 (by omega) (by omega), ⟨by omega, hql⟩, hql, fits64 (by omega) (by omega), hK⟩
  · intro K hp
    dsimp only
    rw [br_decide]
    refine ⟨fun h => absurd h (by omega), fun _ => ?_⟩
    exact hk
end Go.Abs.Farm
end

section
/- The farm's functions keep their contracts: least terms; errors of shares. -/
open Go.Proofs
set_option maxRecDepth 100000
set_option linter.unusedVariables false
namespace Go.Abs.Farm

theorem div_small {n : Int} {a : Nat} (h1 : 0 ≤ n) (h2 : n ≤ 1000000) (ha : 0 < a) : 0 ≤ n / (a : Int) ∧ n / (a : Int) ≤ 1000000 := by
  refine ⟨Int.ediv_nonneg h1 (by omega), ?_⟩
  have := Int.ediv_le_self (a : Int) h1
  omega
abbrev GInv (num den : Int) (s : Int × Int × Int × Int × Int × Int × Unit) : Prop :=
  ∃ a b : Nat, s = (num, den, (a : Int), (b : Int), 0, 0, ()) ∧ Nat.gcd a b = Nat.gcd num.toNat den.toNat ∧ a ≤ 1000000 ∧ b ≤ 1000000 ∧ (0 < a ∨ 0 < b)

theorem k47 (hG : Good Try.prog (envOf [])) : v47.Kept Try.prog 47 := by
  rintro ⟨num, den, ⟨⟩⟩ hpre k hk
  change Int at num den
  refine aspec hmix hG Try.func47 tx47 (Eq.mpr (eq47 num den k) ?_)
  replace hk : k (two (byN num den) (byD num den)) [] := hk
  unfold vc47
  obtain ⟨n0, n1, d0, d1⟩ := hpre
  have n0 : 0 ≤ num := n0
  have n1 : num ≤ 1000000 := n1
  have d0 : 1 ≤ den := d0
  have d1 : den ≤ 1000000 := d1
  refine Loop.intro (GInv num den) (fun s => s.2.2.2.1.toNat) ?_ ⟨num.toNat, den.toNat, by rw [Int.toNat_of_nonneg n0, Int.toNat_of_nonneg (show 0 ≤ den by omega)], rfl, by omega, by omega, by omega⟩
  rintro s K ⟨a, b, rfl, hg, ha, hb, hab⟩ hK
  dsimp only
  rw [br_bne]
  refine ⟨fun h => ⟨⟨by omega, by omega⟩, ?_⟩, fun h => ?_⟩
  · have hb0 : 0 < b := by omega
    have hlt := Nat.mod_lt a hb0
    refine hK _ ⟨b, a % b, rfl, by rw [← hg, Nat.gcd_comm a b, Nat.gcd_rec b a, Nat.gcd_comm], hb, by omega, .inl hb0⟩ ?_
    show ((a : Int) % (b : Int)).toNat < (b : Int).toNat
    rw [show (a : Int) % (b : Int) = ((a % b : Nat) : Int) from rfl]
    simp only [Int.toNat_natCast]; exact hlt
  · have hb0 : b = 0 := by omega
    subst hb0
    have ha0 : 0 < a := by omega
    have e : gcdI num den = (a : Int) := by unfold gcdI; rw [← hg, Nat.gcd_zero_right]
    unfold byN byD at hk
    rw [e] at hk
    have p1 := div_small n0 n1 ha0
    have p2 := div_small (show 0 ≤ den by omega) d1 ha0
    exact ⟨⟨n0, by omega, fits64 (by omega) (by omega)⟩, ⟨by omega, by omega, fits64 (by omega) (by omega)⟩, hk⟩

theorem k57 (hG : Good Try.prog (envOf [])) : v57.Kept Try.prog 57 := by
  rintro ⟨num, den, ⟨⟩⟩ hpre k hk
  change Int at num den
  refine aspec hmix hG Try.func57 tx57 (Eq.mpr (eq57 num den k) ?_)
  replace hk : k (two (byN num den) (byD num den)) [] := hk
  unfold vc57
  obtain ⟨n0, n1, d0, d1⟩ := hpre
  have n0 : 0 ≤ num := n0
  have n1 : num ≤ 1000000 := n1
  have d0 : 1 ≤ den := d0
  have d1 : den ≤ 1000000 := d1
  refine Loop.intro (GInv num den) (fun s => s.2.2.2.1.toNat) ?_ ⟨num.toNat, den.toNat, by rw [Int.toNat_of_nonneg n0, Int.toNat_of_nonneg (show 0 ≤ den by omega)], rfl, by omega, by omega, by omega⟩
  rintro s K ⟨a, b, rfl, hg, ha, hb, hab⟩ hK
  dsimp only
  rw [br_decide]
  refine ⟨fun h => ⟨⟨by omega, by omega⟩, ?_⟩, fun h => ?_⟩
  · have hb0 : 0 < b := by omega
    have hlt := Nat.mod_lt a hb0
    refine hK _ ⟨b, a % b, rfl, by rw [← hg, Nat.gcd_comm a b, Nat.gcd_rec b a, Nat.gcd_comm], hb, by omega, .inl hb0⟩ ?_
    show ((a : Int) % (b : Int)).toNat < (b : Int).toNat
    rw [show (a : Int) % (b : Int) = ((a % b : Nat) : Int) from rfl]
    simp only [Int.toNat_natCast]; exact hlt
  · have hb0 : b = 0 := by omega
    subst hb0
    have ha0 : 0 < a := by omega
    have e : gcdI num den = (a : Int) := by unfold gcdI; rw [← hg, Nat.gcd_zero_right]
    unfold byN byD at hk
    rw [e] at hk
    have p1 := div_small n0 n1 ha0
    have p2 := div_small (show 0 ≤ den by omega) d1 ha0
    exact ⟨⟨n0, by omega, fits64 (by omega) (by omega)⟩, ⟨by omega, by omega, fits64 (by omega) (by omega)⟩, hk⟩

theorem sized_codes (pr n : Int) : sized pr n = 0 ∨ sized pr n = 3 ∨ sized pr n = 6 := by
  unfold sized
  by_cases h1 : pr < 0 ∨ 200 < pr
  · rw [if_pos h1]; omega
  · rw [if_neg h1]
    by_cases h2 : n < 1 ∨ 8 < n
    · rw [if_pos h2]; omega
    · rw [if_neg h2]; omega
theorem year_codes (pr : Int) (cl : List Int) : yearErr pr cl = 0 ∨ yearErr pr cl = 3 ∨ yearErr pr cl = 6 ∨ yearErr pr cl = 16 := by
  have := sized_codes pr (cl.length : Int)
  unfold yearErr
  by_cases h1 : sized pr (cl.length : Int) ≠ 0
  · rw [if_pos h1]; omega
  · rw [if_neg h1]
    by_cases h2 : anyOut 0 100 cl = true
    · rw [if_pos h2]; omega
    · rw [if_neg h2]
      by_cases h3 : sumL cl = 0
      · rw [if_pos h3]; omega
      · rw [if_neg h3]; omega
theorem shares_codes (pr : Int) (cl s : List Int) : sharesErr pr cl s = 0 ∨ sharesErr pr cl s = 3 ∨ sharesErr pr cl s = 6 ∨ sharesErr pr cl s = 16 ∨ sharesErr pr cl s = 15 ∨ sharesErr pr cl s = 14 := by
  have := year_codes pr cl
  unfold sharesErr
  by_cases h1 : yearErr pr cl ≠ 0
  · rw [if_pos h1]; omega
  · rw [if_neg h1]
    by_cases h2 : s.length ≠ cl.length
    · rw [if_pos h2]; omega
    · rw [if_neg h2]
      by_cases h3 : anyOut 0 200 s = true
      · rw [if_pos h3]; omega
      · rw [if_neg h3]
        by_cases h4 : sumL s ≠ pr
        · rw [if_pos h4]; omega
        · rw [if_neg h4]; omega
theorem open_codes (pr : Int) (cl : List Int) (sh : List (List Int)) : openErr pr cl sh = 0 ∨ openErr pr cl sh = 3 ∨ openErr pr cl sh = 6 ∨ openErr pr cl sh = 16 ∨ openErr pr cl sh = 15 ∨ openErr pr cl sh = 14 := by
  cases sh with
  | nil =>
    have := year_codes pr cl
    show yearErr pr cl = 0 ∨ yearErr pr cl = 3 ∨ yearErr pr cl = 6 ∨ yearErr pr cl = 16 ∨ yearErr pr cl = 15 ∨ yearErr pr cl = 14
    omega
  | cons s sh => exact shares_codes pr cl s
theorem errsO_br {pr : Int} {cl : List Int} {sh : List (List Int)} {p : Int → Prop} {q : Prop}
    (h : br (oeIs pr cl sh 3) (p 3) (br (oeIs pr cl sh 6) (p 6) (br (oeIs pr cl sh 16) (p 16) (br (oeIs pr cl sh 15) (p 15) (br (oeIs pr cl sh 14) (p 14) q))))) :
    (openErr pr cl sh ≠ 0 → p (openErr pr cl sh)) ∧ (openErr pr cl sh = 0 → q) := by
  simp only [br_iff, oeIs, decide_eq_true_eq, decide_eq_false_iff_not] at h
  rcases open_codes pr cl sh with e | e | e | e | e | e <;> rw [e] at h ⊢ <;> simp at h ⊢ <;> exact h
theorem br_errsO {pr : Int} {cl : List Int} {sh : List (List Int)} {p : Int → Prop} {q : Prop} (h : openErr pr cl sh ≠ 0 → p (openErr pr cl sh)) (h' : openErr pr cl sh = 0 → q) :
    br (oeIs pr cl sh 3) (p 3) (br (oeIs pr cl sh 6) (p 6) (br (oeIs pr cl sh 16) (p 16) (br (oeIs pr cl sh 15) (p 15) (br (oeIs pr cl sh 14) (p 14) q)))) := by
  simp only [br_iff, oeIs, decide_eq_true_eq, decide_eq_false_iff_not]
  rcases open_codes pr cl sh with e | e | e | e | e | e <;> rw [e] at h h' ⊢ <;> simp at h h' ⊢ <;> first | exact h | exact h'
end Go.Abs.Farm
end

section
/- The farm's functions keep their contracts: what is opened. -/
open Go.Proofs
set_option maxRecDepth 100000
set_option linter.unusedVariables false
namespace Go.Abs.Farm

theorem br_notnot (b : Bool) (p q : Prop) : br (Bool.not (Bool.not b)) p q ↔ (b = true → p) ∧ (b = false → q) := by rw [Bool.not_not, br_iff]

theorem k55 (hG : Good Try.prog (envOf [(26, mkC [v26]), (56, mkC [v56]), (58, mkC [v58])])) : v55.Kept Try.prog 55 := by
  rintro ⟨pr, cl, sh, ⟨⟩⟩ hpre k hk
  change List Int at cl
  change List (List Int) at sh
  change Int at pr
  refine aspec hmix hG Try.func55 tx55 (Eq.mpr (eq55 pr cl sh k) ?_)
  obtain ⟨hl, hs1, hs2⟩ := hpre
  have hl : cl.length ≤ 14 := hl
  have hs1 : sh.length ≤ 1 := hs1
  have hs2 : ∀ l : List Int, l ∈ sh → l.length ≤ 14 := hs2
  obtain ⟨hkE, hkO⟩ := errsO_br (p := fun e => k (.tup [nilA, rI e]) []) (q := k (.tup [purse pr cl, rI 0]) []) hk
  unfold vc55
  refine ⟨hl, ?_⟩
  rw [br_bne]
  refine ⟨fun h => ?_, fun h => ?_⟩
  · have e : openErr pr cl sh = yearErr pr cl := by
      cases sh with
      | nil => rfl
      | cons s sh => show sharesErr pr cl s = _; unfold sharesErr; rw [if_pos h]
    have := hkE (by rw [e]; exact h)
    rw [e] at this
    exact this
  cases sh with
  | nil =>
    refine Loop.upto (fun i => ([], ((([] : List (List Int)).length : Nat) : Int), (i : Int), pr, cl, ())) (fun i => True) 0 rfl trivial ?_ ?_
    · intro i K hi; exact absurd hi (Nat.not_lt_zero _)
    · intro K _
      dsimp only
      rw [br_decide]
      exact ⟨fun h => absurd h (by simp), fun _ => hkO h⟩
  | cons s sh =>
    have e0 : sh = [] := List.eq_nil_of_length_eq_zero (by simpa using hs1)
    subst e0
    have hsl := hs2 s (by simp)
    have hs60 : s.length ≤ big60 := by simp only [big60]; omega
    have hO : openErr pr cl [s] = sharesErr pr cl s := rfl
    rw [hO] at hkE hkO
    refine Loop.upto (fun i => ([s], (([s].length : Nat) : Int), (i : Int), pr, cl, ())) (fun i => i = 1 → sharesErr pr cl s = 0) 1 rfl (by omega) ?_ ?_
    · intro i K hi _ hK
      dsimp only
      rw [br_decide]
      refine ⟨fun _ => ?_, fun h => absurd h (by simp; omega)⟩
      obtain rfl : i = 0 := by omega
      refine ⟨⟨by omega, by simp⟩, ?_⟩
      show br ((((s.length : Nat) : Int)) != ((cl.length : Nat) : Int)) _ _
      rw [br_bne]
      refine ⟨fun h2 => ?_, fun h2 => ⟨hs60, ?_⟩⟩
      · have e : sharesErr pr cl s = 15 := by unfold sharesErr; rw [if_neg (by omega), if_pos (by omega)]
        have := hkE (by omega)
        rw [e] at this; exact this
      show br (Bool.not (Bool.not (anyOut 0 200 s))) _ _
      rw [br_notnot]
      refine ⟨fun h3 => ?_, fun h3 => ?_⟩
      · have e : sharesErr pr cl s = 3 := by unfold sharesErr; rw [if_neg (by omega), if_neg (by omega), if_pos h3]
        have := hkE (by omega)
        rw [e] at this; exact this
      have hin := not_any h3
      refine ⟨⟨by show s.length ≤ 20; omega, fun x hx => ⟨(hin x hx).1, by have := (hin x hx).2; omega⟩⟩, ?_⟩
      show br (sumL s != pr) _ _
      rw [br_bne]
      refine ⟨fun h4 => ?_, fun h4 => ⟨fits64 (by omega) (by omega), hK (fun _ => ?_)⟩⟩
      · have e : sharesErr pr cl s = 14 := by unfold sharesErr; rw [if_neg (by omega), if_neg (by omega), if_neg (by simp [h3]), if_pos h4]
        have := hkE (by omega)
        rw [e] at this; exact this
      · unfold sharesErr; rw [if_neg (by omega), if_neg (by omega), if_neg (by simp [h3]), if_neg (by omega)]
    · intro K hp
      dsimp only
      rw [br_decide]
      exact ⟨fun h => absurd h (by simp), fun _ => hkO (hp rfl)⟩
end Go.Abs.Farm
end

section
/- The contracts of the farm's functions: second part. -/
namespace Go.Abs.Farm
abbrev eYr : VS := sYr
def v18 : Var := ⟨.cs sYr (.cs sI .nl), [], fun x => x.2.1.length ≤ 14, fun x => one (.tup [two (quotaN x.1 x.2.1 x.2.2.1) (quotaD x.1 x.2.1 x.2.2.1), rI (quotaE x.1 x.2.1 x.2.2.1)])⟩
def v19 : Var := ⟨.cs sYr (.cs sI .nl), [], fun x => x.2.1.length ≤ 14, fun x => one (.tup [two (quotaN x.1 x.2.1 x.2.2.1) (quotaD x.1 x.2.1 x.2.2.1), rI (quotaE x.1 x.2.1 x.2.2.1)])⟩
def v20 : Var := ⟨.cs sYr .nl, [], fun x => x.2.1.length ≤ 14, fun x => ownE (fairL x.1 x.2.1) (yearErr x.1 x.2.1)⟩
def v21 : Var := ⟨.cs sYr .nl, [], fun x => x.2.1.length ≤ 14, fun x => ownE (fairL x.1 x.2.1) (yearErr x.1 x.2.1)⟩
def v22 : Var := ⟨.cs sYr .nl, [], fun x => x.2.1.length ≤ 14, fun x => r2 (nextN x.1 x.2.1) (yearErr x.1 x.2.1)⟩
def v23 : Var := ⟨.cs sYr .nl, [], fun x => x.2.1.length ≤ 14, fun x => r2 (nextN x.1 x.2.1) (yearErr x.1 x.2.1)⟩
def v43 : Var := ⟨.cs sYr .nl, [], fun x => Fine x.1 x.2.1, fun x => .leaf (.tup [.reg 0 false, .bool true]) [.sl (.int .i64) (fairOf x.1 x.2.1)]⟩
end Go.Abs.Farm
end

section
/- Conditions and their equations, printed by a program. -/
open Go.Proofs
set_option maxRecDepth 100000
set_option linter.unusedVariables false
namespace Go.Abs.Farm
def vc18 (pr : Int) (cl : List Int) (f : Int) (k : AVal → List Cont → Prop) : Prop :=
  (Go.Abs.Farm.v55.p (pr, (cl, (([] : List (List Int)), ())))) ∧
  br ((Go.Abs.Farm.oeIs pr cl ([] : List (List Int)) (3 : Int)))
   ((k (Go.Abs.AVal.tup ((Go.Abs.AVal.agg ((Go.Abs.AVal.int Go.IntKind.i64 (0 : Int)) :: ((Go.Abs.AVal.int Go.IntKind.i64 (0 : Int)) :: []))) :: ((Go.Abs.AVal.int Go.IntKind.i64 (3 : Int)) :: []))) []))
   (br ((Go.Abs.Farm.oeIs pr cl ([] : List (List Int)) (6 : Int)))
    ((k (Go.Abs.AVal.tup ((Go.Abs.AVal.agg ((Go.Abs.AVal.int Go.IntKind.i64 (0 : Int)) :: ((Go.Abs.AVal.int Go.IntKind.i64 (0 : Int)) :: []))) :: ((Go.Abs.AVal.int Go.IntKind.i64 (6 : Int)) :: []))) []))
    (br ((Go.Abs.Farm.oeIs pr cl ([] : List (List Int)) (16 : Int)))
     ((k (Go.Abs.AVal.tup ((Go.Abs.AVal.agg ((Go.Abs.AVal.int Go.IntKind.i64 (0 : Int)) :: ((Go.Abs.AVal.int Go.IntKind.i64 (0 : Int)) :: []))) :: ((Go.Abs.AVal.int Go.IntKind.i64 (16 : Int)) :: []))) []))
     (br ((Go.Abs.Farm.oeIs pr cl ([] : List (List Int)) (15 : Int)))
      ((k (Go.Abs.AVal.tup ((Go.Abs.AVal.agg ((Go.Abs.AVal.int Go.IntKind.i64 (0 : Int)) :: ((Go.Abs.AVal.int Go.IntKind.i64 (0 : Int)) :: []))) :: ((Go.Abs.AVal.int Go.IntKind.i64 (15 : Int)) :: []))) []))
      (br ((Go.Abs.Farm.oeIs pr cl ([] : List (List Int)) (14 : Int)))
       ((k (Go.Abs.AVal.tup ((Go.Abs.AVal.agg ((Go.Abs.AVal.int Go.IntKind.i64 (0 : Int)) :: ((Go.Abs.AVal.int Go.IntKind.i64 (0 : Int)) :: []))) :: ((Go.Abs.AVal.int Go.IntKind.i64 (14 : Int)) :: []))) []))
       ((Go.Abs.fitsK Go.IntKind.i64 ((((List.length cl) : Nat) : Int) - (1 : Int))) ∧
       (Go.Abs.Farm.v56.p ((0 : Int), (((((List.length cl) : Nat) : Int) - (1 : Int)), ((f :: ([] : List Int)), ())))) ∧
       br ((Bool.not (Bool.not (Go.Abs.Farm.anyOut (0 : Int) ((((List.length cl) : Nat) : Int) - (1 : Int)) (f :: ([] : List Int))))))
        ((k (Go.Abs.AVal.tup ((Go.Abs.AVal.agg ((Go.Abs.AVal.int Go.IntKind.i64 (0 : Int)) :: ((Go.Abs.AVal.int Go.IntKind.i64 (0 : Int)) :: []))) :: ((Go.Abs.AVal.int Go.IntKind.i64 (2 : Int)) :: []))) []))
        (∃ h4 : (((0 : Int) ≤ f) ∧ ((Int.toNat f) < (List.length cl))),
        (Go.Abs.fitsK Go.IntKind.i64 ((cl[(Int.toNat f)]'h4.2) * pr)) ∧
        (Go.Abs.Farm.v58.p (cl, ())) ∧
        (Go.Abs.Farm.v57.p (((cl[(Int.toNat f)]'h4.2) * pr), ((Go.Abs.Farm.sumL cl), ()))) ∧
        (k (Go.Abs.AVal.tup ((Go.Abs.AVal.agg ((Go.Abs.AVal.int Go.IntKind.i64 (Go.Abs.Farm.byN ((cl[(Int.toNat f)]'h4.2) * pr) (Go.Abs.Farm.sumL cl))) :: ((Go.Abs.AVal.int Go.IntKind.i64 (Go.Abs.Farm.byD ((cl[(Int.toNat f)]'h4.2) * pr) (Go.Abs.Farm.sumL cl))) :: []))) :: ((Go.Abs.AVal.int Go.IntKind.i64 (0 : Int)) :: []))) [])))))))
theorem eq18 (pr : Int) (cl : List Int) (f : Int) (k : AVal → List Cont → Prop) : awpF (envOf [(55, mkC [v55]), (56, mkC [v56]), (58, mkC [v58]), (57, mkC [v57])]) Try.prog kt 18 false Try.f18 (v18.args (pr, cl, f, ())) (v18.conts (pr, cl, f, ())) k = vc18 pr cl f k := by kernel_rfl
theorem tx18 : (Try.f18.body.map Code.textsOk).getD true = true := by kernel_rfl

def vc19 (pr : Int) (cl : List Int) (f : Int) (k : AVal → List Cont → Prop) : Prop :=
  (Go.Abs.Farm.v27.p (pr, (cl, ()))) ∧
  br (((Go.Abs.Farm.yearErr pr cl) != (0 : Int)))
   ((Go.Abs.Farm.v27.p (pr, (cl, ()))) ∧
   (k (Go.Abs.AVal.tup ((Go.Abs.AVal.agg ((Go.Abs.AVal.int Go.IntKind.i64 (0 : Int)) :: ((Go.Abs.AVal.int Go.IntKind.i64 (0 : Int)) :: []))) :: ((Go.Abs.AVal.int Go.IntKind.i64 (Go.Abs.Farm.yearErr pr cl)) :: []))) []))
   (br (((decide (f < (0 : Int))) == Bool.false))
    (br ((decide (f ≥ (((List.length cl) : Nat) : Int))))
     ((k (Go.Abs.AVal.tup ((Go.Abs.AVal.agg ((Go.Abs.AVal.int Go.IntKind.i64 (0 : Int)) :: ((Go.Abs.AVal.int Go.IntKind.i64 (0 : Int)) :: []))) :: ((Go.Abs.AVal.int Go.IntKind.i64 (2 : Int)) :: []))) []))
     (∃ h4 : (((0 : Int) ≤ f) ∧ ((Int.toNat f) < (List.length cl))),
     (Go.Abs.fitsK Go.IntKind.i64 ((cl[(Int.toNat f)]'h4.2) * pr)) ∧
     (Go.Abs.Farm.v48.p (cl, ())) ∧
     (Go.Abs.Farm.v47.p (((cl[(Int.toNat f)]'h4.2) * pr), ((Go.Abs.Farm.sumL cl), ()))) ∧
     (k (Go.Abs.AVal.tup ((Go.Abs.AVal.agg ((Go.Abs.AVal.int Go.IntKind.i64 (Go.Abs.Farm.byN ((cl[(Int.toNat f)]'h4.2) * pr) (Go.Abs.Farm.sumL cl))) :: ((Go.Abs.AVal.int Go.IntKind.i64 (Go.Abs.Farm.byD ((cl[(Int.toNat f)]'h4.2) * pr) (Go.Abs.Farm.sumL cl))) :: []))) :: ((Go.Abs.AVal.int Go.IntKind.i64 (0 : Int)) :: []))) [])))
    ((k (Go.Abs.AVal.tup ((Go.Abs.AVal.agg ((Go.Abs.AVal.int Go.IntKind.i64 (0 : Int)) :: ((Go.Abs.AVal.int Go.IntKind.i64 (0 : Int)) :: []))) :: ((Go.Abs.AVal.int Go.IntKind.i64 (2 : Int)) :: []))) [])))
theorem eq19 (pr : Int) (cl : List Int) (f : Int) (k : AVal → List Cont → Prop) : awpF (envOf [(27, mkC [v27]), (48, mkC [v48]), (47, mkC [v47])]) Try.prog kt 19 false Try.f19 (v19.args (pr, cl, f, ())) (v19.conts (pr, cl, f, ())) k = vc19 pr cl f k := by kernel_rfl
theorem tx19 : (Try.f19.body.map Code.textsOk).getD true = true := by kernel_rfl

def vc20 (pr : Int) (cl : List Int) (k : AVal → List Cont → Prop) : Prop :=
  (Go.Abs.Farm.v55.p (pr, (cl, (([] : List (List Int)), ())))) ∧
  br ((Go.Abs.Farm.oeIs pr cl ([] : List (List Int)) (3 : Int)))
   ((k (Go.Abs.AVal.tup ((Go.Abs.AVal.reg 0 Bool.false) :: ((Go.Abs.AVal.int Go.IntKind.i64 (3 : Int)) :: []))) ((Go.Abs.Cont.sl (Go.Abs.Ty.int Go.IntKind.i64) ([] : List Int)) :: [])))
   (br ((Go.Abs.Farm.oeIs pr cl ([] : List (List Int)) (6 : Int)))
    ((k (Go.Abs.AVal.tup ((Go.Abs.AVal.reg 0 Bool.false) :: ((Go.Abs.AVal.int Go.IntKind.i64 (6 : Int)) :: []))) ((Go.Abs.Cont.sl (Go.Abs.Ty.int Go.IntKind.i64) ([] : List Int)) :: [])))
    (br ((Go.Abs.Farm.oeIs pr cl ([] : List (List Int)) (16 : Int)))
     ((k (Go.Abs.AVal.tup ((Go.Abs.AVal.reg 0 Bool.false) :: ((Go.Abs.AVal.int Go.IntKind.i64 (16 : Int)) :: []))) ((Go.Abs.Cont.sl (Go.Abs.Ty.int Go.IntKind.i64) ([] : List Int)) :: [])))
     (br ((Go.Abs.Farm.oeIs pr cl ([] : List (List Int)) (15 : Int)))
      ((k (Go.Abs.AVal.tup ((Go.Abs.AVal.reg 0 Bool.false) :: ((Go.Abs.AVal.int Go.IntKind.i64 (15 : Int)) :: []))) ((Go.Abs.Cont.sl (Go.Abs.Ty.int Go.IntKind.i64) ([] : List Int)) :: [])))
      (br ((Go.Abs.Farm.oeIs pr cl ([] : List (List Int)) (14 : Int)))
       ((k (Go.Abs.AVal.tup ((Go.Abs.AVal.reg 0 Bool.false) :: ((Go.Abs.AVal.int Go.IntKind.i64 (14 : Int)) :: []))) ((Go.Abs.Cont.sl (Go.Abs.Ty.int Go.IntKind.i64) ([] : List Int)) :: [])))
       ((Go.Abs.Farm.v59.p (pr, (cl, (pr, ())))) ∧
       ((List.length (Go.Abs.Farm.fair8 pr cl)) = (List.length (List.replicate (8 : Nat) (Int.ofNat 0)))) ∧
       (((List.length (Go.Abs.Farm.fair8 pr cl)) * (Go.Abs.Ty.size (Go.Abs.Ty.int Go.IntKind.i64))) = (Go.Abs.sizeT Go.Proofs.Try.prog (79 : Nat))) ∧
       ((0 : Nat) < (List.length (List.replicate (8 : Nat) (Int.ofNat 0)))) ∧
       (((0 : Int) ≤ (((List.length cl) : Nat) : Int)) ∧ (((((List.length cl) : Nat) : Int) = (((List.length cl) : Nat) : Int)) ∧ ((((List.length cl) : Nat) : Int) ≤ ((Go.Abs.big : Nat) : Int)))) ∧
       ((List.length (Go.Abs.Farm.fair8 pr cl)) = (8 : Nat)) ∧
       (k (Go.Abs.AVal.tup ((Go.Abs.AVal.reg 0 Bool.false) :: ((Go.Abs.AVal.int Go.IntKind.i64 (0 : Int)) :: []))) ((Go.Abs.Cont.sl (Go.Abs.Ty.int Go.IntKind.i64) ((List.take (List.length (List.replicate (Int.toNat (((List.length cl) : Nat) : Int)) (Int.ofNat 0))) (Go.Abs.Farm.fair8 pr cl)) ++ (List.drop (List.length (Go.Abs.Farm.fair8 pr cl)) (List.replicate (Int.toNat (((List.length cl) : Nat) : Int)) (Int.ofNat 0))))) :: [])))))))
theorem eq20 (pr : Int) (cl : List Int) (k : AVal → List Cont → Prop) : awpF (envOf [(55, mkC [v55]), (59, mkC [v59])]) Try.prog kt 20 false Try.f20 (v20.args (pr, cl, ())) (v20.conts (pr, cl, ())) k = vc20 pr cl k := by kernel_rfl
theorem tx20 : (Try.f20.body.map Code.textsOk).getD true = true := by kernel_rfl

def vc21 (pr : Int) (cl : List Int) (k : AVal → List Cont → Prop) : Prop :=
  (Go.Abs.Farm.v27.p (pr, (cl, ()))) ∧
  br (((Go.Abs.Farm.yearErr pr cl) != (0 : Int)))
   ((Go.Abs.Farm.v27.p (pr, (cl, ()))) ∧
   (k (Go.Abs.AVal.tup ((Go.Abs.AVal.reg 0 Bool.false) :: ((Go.Abs.AVal.int Go.IntKind.i64 (Go.Abs.Farm.yearErr pr cl)) :: []))) ((Go.Abs.Cont.sl (Go.Abs.Ty.int Go.IntKind.i64) ([] : List Int)) :: [])))
   ((Go.Abs.Farm.v60.p (pr, (cl, ()))) ∧
   (k (Go.Abs.AVal.tup ((Go.Abs.AVal.reg 0 Bool.false) :: ((Go.Abs.AVal.int Go.IntKind.i64 (0 : Int)) :: []))) ((Go.Abs.Cont.sl (Go.Abs.Ty.int Go.IntKind.i64) (Go.Abs.Farm.fairOf pr cl)) :: [])))
theorem eq21 (pr : Int) (cl : List Int) (k : AVal → List Cont → Prop) : awpF (envOf [(27, mkC [v27]), (60, mkC [v60])]) Try.prog kt 21 false Try.f21 (v21.args (pr, cl, ())) (v21.conts (pr, cl, ())) k = vc21 pr cl k := by kernel_rfl
theorem tx21 : (Try.f21.body.map Code.textsOk).getD true = true := by kernel_rfl

def vc22 (pr : Int) (cl : List Int) (k : AVal → List Cont → Prop) : Prop :=
  (Go.Abs.Farm.v55.p (pr, (cl, (([] : List (List Int)), ())))) ∧
  br ((Go.Abs.Farm.oeIs pr cl ([] : List (List Int)) (3 : Int)))
   ((k (Go.Abs.AVal.tup ((Go.Abs.AVal.int Go.IntKind.i64 (0 : Int)) :: ((Go.Abs.AVal.int Go.IntKind.i64 (3 : Int)) :: []))) []))
   (br ((Go.Abs.Farm.oeIs pr cl ([] : List (List Int)) (6 : Int)))
    ((k (Go.Abs.AVal.tup ((Go.Abs.AVal.int Go.IntKind.i64 (0 : Int)) :: ((Go.Abs.AVal.int Go.IntKind.i64 (6 : Int)) :: []))) []))
    (br ((Go.Abs.Farm.oeIs pr cl ([] : List (List Int)) (16 : Int)))
     ((k (Go.Abs.AVal.tup ((Go.Abs.AVal.int Go.IntKind.i64 (0 : Int)) :: ((Go.Abs.AVal.int Go.IntKind.i64 (16 : Int)) :: []))) []))
     (br ((Go.Abs.Farm.oeIs pr cl ([] : List (List Int)) (15 : Int)))
      ((k (Go.Abs.AVal.tup ((Go.Abs.AVal.int Go.IntKind.i64 (0 : Int)) :: ((Go.Abs.AVal.int Go.IntKind.i64 (15 : Int)) :: []))) []))
      (br ((Go.Abs.Farm.oeIs pr cl ([] : List (List Int)) (14 : Int)))
       ((k (Go.Abs.AVal.tup ((Go.Abs.AVal.int Go.IntKind.i64 (0 : Int)) :: ((Go.Abs.AVal.int Go.IntKind.i64 (14 : Int)) :: []))) []))
       ((Go.Abs.fitsK Go.IntKind.i64 (pr + (1 : Int))) ∧
       (Go.Abs.Farm.v61.p (pr, (cl, ((pr + (1 : Int)), ())))) ∧
       (((0 : Int) ≤ pr) ∧ ((Int.toNat pr) < (List.length (Go.Abs.Farm.claimsOf cl (pr + (1 : Int)))))) ∧
       ∃ h3 : ((Int.toNat pr) < (List.length (Go.Abs.Farm.claimsOf cl (pr + (1 : Int))))),
       (k (Go.Abs.AVal.tup ((Go.Abs.AVal.int Go.IntKind.i64 ((Go.Abs.Farm.claimsOf cl (pr + (1 : Int)))[(Int.toNat pr)]'h3).1) :: ((Go.Abs.AVal.int Go.IntKind.i64 (0 : Int)) :: []))) []))))))
theorem eq22 (pr : Int) (cl : List Int) (k : AVal → List Cont → Prop) : awpF (envOf [(55, mkC [v55]), (61, mkC [v61])]) Try.prog kt 22 false Try.f22 (v22.args (pr, cl, ())) (v22.conts (pr, cl, ())) k = vc22 pr cl k := by kernel_rfl
theorem tx22 : (Try.f22.body.map Code.textsOk).getD true = true := by kernel_rfl

def vc23 (pr : Int) (cl : List Int) (k : AVal → List Cont → Prop) : Prop :=
  (Go.Abs.Farm.v27.p (pr, (cl, ()))) ∧
  br (((Go.Abs.Farm.yearErr pr cl) != (0 : Int)))
   ((Go.Abs.Farm.v27.p (pr, (cl, ()))) ∧
   (k (Go.Abs.AVal.tup ((Go.Abs.AVal.int Go.IntKind.i64 (0 : Int)) :: ((Go.Abs.AVal.int Go.IntKind.i64 (Go.Abs.Farm.yearErr pr cl)) :: []))) []))
   ((Go.Abs.Farm.v60.p (pr, (cl, ()))) ∧
   (Go.Abs.Farm.v62.p (cl, ((Go.Abs.Farm.fairOf pr cl), ()))) ∧
   (k (Go.Abs.AVal.tup ((Go.Abs.AVal.int Go.IntKind.i64 (((Go.Abs.Farm.nextOf cl (Go.Abs.Farm.fairOf pr cl)) : Nat) : Int)) :: ((Go.Abs.AVal.int Go.IntKind.i64 (0 : Int)) :: []))) []))
theorem eq23 (pr : Int) (cl : List Int) (k : AVal → List Cont → Prop) : awpF (envOf [(27, mkC [v27]), (60, mkC [v60]), (62, mkC [v62])]) Try.prog kt 23 false Try.f23 (v23.args (pr, cl, ())) (v23.conts (pr, cl, ())) k = vc23 pr cl k := by kernel_rfl
theorem tx23 : (Try.f23.body.map Code.textsOk).getD true = true := by kernel_rfl

def vc43 (pr : Int) (cl : List Int) (k : AVal → List Cont → Prop) : Prop :=
  (Go.Abs.Farm.v20.p (pr, (cl, ()))) ∧
  br ((((Go.Abs.Farm.yearErr pr cl) == (0 : Int)) == Bool.true))
   ((Go.Abs.Farm.v45.p (pr, (cl, ((Go.Abs.Farm.fairL pr cl), ())))) ∧
   (k (Go.Abs.AVal.tup ((Go.Abs.AVal.reg 0 Bool.false) :: ((Go.Abs.AVal.bool ((Go.Abs.Farm.sharesErr pr cl (Go.Abs.Farm.fairL pr cl)) == (0 : Int))) :: []))) ((Go.Abs.Cont.sl (Go.Abs.Ty.int Go.IntKind.i64) (Go.Abs.Farm.fairL pr cl)) :: [])))
   ((k (Go.Abs.AVal.tup ((Go.Abs.AVal.reg 0 Bool.false) :: ((Go.Abs.AVal.bool Bool.false) :: []))) ((Go.Abs.Cont.sl (Go.Abs.Ty.int Go.IntKind.i64) (Go.Abs.Farm.fairL pr cl)) :: [])))
theorem eq43 (pr : Int) (cl : List Int) (k : AVal → List Cont → Prop) : awpF (envOf [(20, mkC [v20]), (45, mkC [v45])]) Try.prog kt 43 false Try.f43 (v43.args (pr, cl, ())) (v43.conts (pr, cl, ())) k = vc43 pr cl k := by kernel_rfl
theorem tx43 : (Try.f43.body.map Code.textsOk).getD true = true := by kernel_rfl

end Go.Abs.Farm
end

section
/- The farm's functions keep their contracts: quotas, fair shares, the next farm. -/
open Go.Proofs
set_option maxRecDepth 100000
set_option linter.unusedVariables false
namespace Go.Abs.Farm

theorem claims_sorted (cl : List Int) (n : Int) : (claimsOf cl n).Pairwise (Bef cl) := by
  have hp : ∀ a ∈ allC cl n, 0 < a.2 := fun a ha => by have := allC_mem.1 ha; omega
  have h1 := sort_pair cl hp
  have h2 : (claimsOf cl n).Nodup := (claims_perm cl n).nodup_iff.2 (allC_nodup cl n)
  refine (List.Pairwise.and h1 h2).imp (fun {a b} h => ?_)
  rcases bef_total (cl := cl) h.2 with h3 | h3
  · exact h3
  · exact absurd ((cmp_bef cl b a).2 h3) h.1
theorem claims_len (cl : List Int) (n : Int) : (claimsOf cl n).length = cl.length * n.toNat := by rw [(claims_perm cl n).length_eq, allC_len]
theorem nonneg_getD {cl : List Int} (h : ∀ x ∈ cl, 0 ≤ x) (i : Nat) : 0 ≤ cl.getD i 0 := by
  rcases Nat.lt_or_ge i cl.length with hi | hi
  · rw [getD_at hi]; exact h _ (List.getElem_mem hi)
  · rw [List.getD_eq_getElem?_getD, List.getElem?_eq_none hi]; simp

theorem k21 (hG : Good Try.prog (envOf [(27, mkC [v27]), (60, mkC [v60])])) : v21.Kept Try.prog 21 := by
  rintro ⟨pr, cl, ⟨⟩⟩ hpre k hk
  change Int at pr
  change List Int at cl
  refine aspec hmix hG Try.func21 tx21 (Eq.mpr (eq21 pr cl k) ?_)
  replace hk : k (.tup [.reg 0 false, rI (yearErr pr cl)]) [.sl (.int .i64) (fairL pr cl)] := hk
  unfold vc21
  have hl : cl.length ≤ 14 := hpre
  refine ⟨hl, ?_⟩
  rw [br_bne]
  refine ⟨fun h => ⟨hl, ?_⟩, fun h => ⟨h, ?_⟩⟩
  · have e : fairL pr cl = [] := by unfold fairL; rw [if_neg h]
    rw [e] at hk; exact hk
  · have e : fairL pr cl = fairOf pr cl := by unfold fairL; rw [if_pos h]
    rw [e, h] at hk; exact hk

theorem k23 (hG : Good Try.prog (envOf [(27, mkC [v27]), (60, mkC [v60]), (62, mkC [v62])])) : v23.Kept Try.prog 23 := by
  rintro ⟨pr, cl, ⟨⟩⟩ hpre k hk
  change Int at pr
  change List Int at cl
  refine aspec hmix hG Try.func23 tx23 (Eq.mpr (eq23 pr cl k) ?_)
  replace hk : k (.tup [rI (nextN pr cl), rI (yearErr pr cl)]) [] := hk
  unfold vc23
  have hl : cl.length ≤ 14 := hpre
  refine ⟨hl, ?_⟩
  rw [br_bne]
  refine ⟨fun h => ⟨hl, ?_⟩, fun h => ⟨h, ?_⟩⟩
  · have e : nextN pr cl = 0 := by unfold nextN; rw [if_neg h]
    rw [e] at hk; exact hk
  · obtain ⟨f1, f2, f3, f4, f5, f6⟩ := fine_spec h
    have e : nextN pr cl = (nextOf cl (fairOf pr cl) : Int) := by unfold nextN; rw [if_pos h]
    rw [e, h] at hk
    exact ⟨⟨by show cl.length ≤ 20; omega, by show 0 < cl.length; omega, fairUp_len cl _, fun x hx => ⟨(f5 x hx).1, by have := (f5 x hx).2; omega⟩, fair_in (by omega)⟩, hk⟩

theorem open_nil (pr : Int) (cl : List Int) : openErr pr cl [] = yearErr pr cl := rfl

theorem k22 (hG : Good Try.prog (envOf [(55, mkC [v55]), (61, mkC [v61])])) : v22.Kept Try.prog 22 := by
  rintro ⟨pr, cl, ⟨⟩⟩ hpre k hk
  change Int at pr
  change List Int at cl
  refine aspec hmix hG Try.func22 tx22 (Eq.mpr (eq22 pr cl k) ?_)
  replace hk : k (.tup [rI (nextN pr cl), rI (yearErr pr cl)]) [] := hk
  unfold vc22
  have hl : cl.length ≤ 14 := hpre
  refine ⟨⟨hl, Nat.zero_le _, fun l h => absurd h List.not_mem_nil⟩, ?_⟩
  refine br_errsO (p := fun e => k (.tup [rI 0, rI e]) []) (fun h => ?_) (fun h => ?_)
  · rw [open_nil] at h ⊢
    have e : nextN pr cl = 0 := by unfold nextN; rw [if_neg h]
    rw [e] at hk; exact hk
  · rw [open_nil] at h
    obtain ⟨f1, f2, f3, f4, f5, f6⟩ := fine_spec h
    have h0 : 0 < cl.length := by omega
    have hlen := claims_len cl (pr + 1)
    have hin : pr.toNat < (claimsOf cl (pr + 1)).length := by
      rw [hlen]
      exact Nat.lt_of_lt_of_le (show pr.toNat < (pr + 1).toNat by omega) (Nat.le_mul_of_pos_left _ h0)
    have hsf := (sorted_fair h0 (nonneg_getD (fun x hx => (f5 x hx).1)) (claims_perm cl (pr + 1)) (claims_sorted cl (pr + 1)) pr.toNat (by omega)).2 hin (by omega)
    have e : nextN pr cl = (nextOf cl (fairOf pr cl) : Int) := by unfold nextN; rw [if_pos h]
    rw [e, h] at hk
    refine ⟨fits64 (by omega) (by omega), ⟨⟨by show cl.length ≤ 20; omega, fun x hx => ⟨(f5 x hx).1, by have := (f5 x hx).2; omega⟩⟩, by show 0 ≤ pr + 1; omega, by show pr + 1 ≤ 1000; omega⟩, ⟨f1, hin⟩, hin, ?_⟩
    rw [hsf]
    exact hk

theorem quota_pre {pr : Int} {cl : List Int} {f : Int} (h : yearErr pr cl = 0) (h0 : 0 ≤ f) (h1 : f.toNat < cl.length) : 0 ≤ cl[f.toNat] * pr ∧ cl[f.toNat] * pr ≤ 20000 ∧ 1 ≤ sumL cl ∧ sumL cl ≤ 800 ∧ at0 cl f = cl[f.toNat] := by
  obtain ⟨f1, f2, f3, f4, f5, f6⟩ := fine_spec h
  have hx := f5 _ (List.getElem_mem h1)
  have hs := sum_bound (l := cl) (b := 100) f5
  have : cl[f.toNat] * pr ≤ 100 * 200 := Int.mul_le_mul hx.2 f2 f1 (by omega)
  exact ⟨Int.mul_nonneg hx.1 f1, by omega, by omega, by omega, by unfold at0; rw [getD_at h1]⟩

theorem k19 (hG : Good Try.prog (envOf [(27, mkC [v27]), (48, mkC [v48]), (47, mkC [v47])])) : v19.Kept Try.prog 19 := by
  rintro ⟨pr, cl, f, ⟨⟩⟩ hpre k hk
  change Int at pr
  change List Int at cl
  change Int at f
  refine aspec hmix hG Try.func19 tx19 (Eq.mpr (eq19 pr cl f k) ?_)
  replace hk : k (.tup [two (quotaN pr cl f) (quotaD pr cl f), rI (quotaE pr cl f)]) [] := hk
  unfold vc19
  have hl : cl.length ≤ 14 := hpre
  have bad : quotaE pr cl f ≠ 0 → k (.tup [two 0 0, rI (quotaE pr cl f)]) [] := fun h => by
    have e1 : quotaN pr cl f = 0 := by unfold quotaN; rw [if_neg h]
    have e2 : quotaD pr cl f = 0 := by unfold quotaD; rw [if_neg h]
    rw [e1, e2] at hk; exact hk
  refine ⟨hl, ?_⟩
  rw [br_bne]
  refine ⟨fun h => ⟨hl, ?_⟩, fun h => ?_⟩
  · have e : quotaE pr cl f = yearErr pr cl := by unfold quotaE; rw [if_pos h]
    rw [e] at bad; exact bad h
  have e2 : (f < 0 ∨ (cl.length : Int) ≤ f) → quotaE pr cl f = 2 := fun h2 => by unfold quotaE; rw [if_neg (by omega), if_pos h2]
  rw [br_false]
  refine ⟨fun h2 => ?_, fun h2 => by rw [e2 (by omega)] at bad; exact bad (by omega)⟩
  rw [br_decide]
  refine ⟨fun h3 => by rw [e2 (by omega)] at bad; exact bad (by omega), fun h3 => ?_⟩
  obtain ⟨f1, f2, f3, f4, f5, f6⟩ := fine_spec h
  have hft : f.toNat < cl.length := by omega
  obtain ⟨q1, q2, q3, q4, q5⟩ := quota_pre h (show 0 ≤ f by omega) hft
  have e0 : quotaE pr cl f = 0 := by unfold quotaE; rw [if_neg (by omega), if_neg (by omega)]
  have e3 : quotaN pr cl f = byN (cl[f.toNat] * pr) (sumL cl) := by unfold quotaN; rw [if_pos e0, q5]
  have e4 : quotaD pr cl f = byD (cl[f.toNat] * pr) (sumL cl) := by unfold quotaD; rw [if_pos e0, q5]
  rw [e0, e3, e4] at hk
  exact ⟨⟨by omega, hft⟩, fits64 (by omega) (by omega), ⟨by show cl.length ≤ 20; omega, fun x hx => ⟨(f5 x hx).1, by have := (f5 x hx).2; omega⟩⟩, ⟨q1, by show cl[f.toNat] * pr ≤ 1000000; omega, q3, by show sumL cl ≤ 1000000; omega⟩, hk⟩

theorem k18 (hG : Good Try.prog (envOf [(55, mkC [v55]), (56, mkC [v56]), (58, mkC [v58]), (57, mkC [v57])])) : v18.Kept Try.prog 18 := by
  rintro ⟨pr, cl, f, ⟨⟩⟩ hpre k hk
  change Int at pr
  change List Int at cl
  change Int at f
  refine aspec hmix hG Try.func18 tx18 (Eq.mpr (eq18 pr cl f k) ?_)
  replace hk : k (.tup [two (quotaN pr cl f) (quotaD pr cl f), rI (quotaE pr cl f)]) [] := hk
  unfold vc18
  have hl : cl.length ≤ 14 := hpre
  have bad : quotaE pr cl f ≠ 0 → k (.tup [two 0 0, rI (quotaE pr cl f)]) [] := fun h => by
    have e1 : quotaN pr cl f = 0 := by unfold quotaN; rw [if_neg h]
    have e2 : quotaD pr cl f = 0 := by unfold quotaD; rw [if_neg h]
    rw [e1, e2] at hk; exact hk
  refine ⟨⟨hl, Nat.zero_le _, fun l h => absurd h List.not_mem_nil⟩, ?_⟩
  refine br_errsO (p := fun e => k (.tup [two 0 0, rI e]) []) (fun h => ?_) (fun h => ?_)
  · rw [open_nil] at h ⊢
    have e : quotaE pr cl f = yearErr pr cl := by unfold quotaE; rw [if_pos h]
    rw [e] at bad; exact bad h
  rw [open_nil] at h
  refine ⟨fits64 (by omega) (by omega), by show (1 : Nat) ≤ big60; decide, ?_⟩
  rw [br_notnot, anyOut_one]
  have e2 : (f < 0 ∨ (cl.length : Int) ≤ f) → quotaE pr cl f = 2 := fun h2 => by unfold quotaE; rw [if_neg (by omega), if_pos h2]
  refine ⟨fun h2 => ?_, fun h2 => ?_⟩
  · simp only [outOf, decide_eq_true_eq] at h2
    rw [e2 (by omega)] at bad; exact bad (by omega)
  simp only [outOf, decide_eq_false_iff_not] at h2
  obtain ⟨f1, f2, f3, f4, f5, f6⟩ := fine_spec h
  have hft : f.toNat < cl.length := by omega
  obtain ⟨q1, q2, q3, q4, q5⟩ := quota_pre h (show 0 ≤ f by omega) hft
  have e0 : quotaE pr cl f = 0 := by unfold quotaE; rw [if_neg (by omega), if_neg (by omega)]
  have e3 : quotaN pr cl f = byN (cl[f.toNat] * pr) (sumL cl) := by unfold quotaN; rw [if_pos e0, q5]
  have e4 : quotaD pr cl f = byD (cl[f.toNat] * pr) (sumL cl) := by unfold quotaD; rw [if_pos e0, q5]
  rw [e0, e3, e4] at hk
  exact ⟨⟨by omega, hft⟩, fits64 (by omega) (by omega), ⟨by show cl.length ≤ 20; omega, fun x hx => ⟨(f5 x hx).1, by have := (f5 x hx).2; omega⟩⟩, ⟨q1, by show cl[f.toNat] * pr ≤ 1000000; omega, q3, by show sumL cl ≤ 1000000; omega⟩, hk⟩
end Go.Abs.Farm
end

section
/- The farm's functions keep their contracts: fair shares. -/
open Go.Proofs
set_option maxRecDepth 100000
set_option linter.unusedVariables false
namespace Go.Abs.Farm

theorem fair_len (pr : Int) (cl : List Int) : (fairOf pr cl).length = cl.length := fairUp_len cl _
theorem fair8_len {pr : Int} {cl : List Int} (h : cl.length ≤ 8) : (fair8 pr cl).length = 8 := by
  unfold fair8
  rw [List.length_append, fair_len, List.length_replicate]; omega

theorem k20 (hG : Good Try.prog (envOf [(55, mkC [v55]), (59, mkC [v59])])) : v20.Kept Try.prog 20 := by
  rintro ⟨pr, cl, ⟨⟩⟩ hpre k hk
  change Int at pr
  change List Int at cl
  refine aspec hmix hG Try.func20 tx20 (Eq.mpr (eq20 pr cl k) ?_)
  replace hk : k (.tup [.reg 0 false, rI (yearErr pr cl)]) [.sl (.int .i64) (fairL pr cl)] := hk
  unfold vc20
  have hl : cl.length ≤ 14 := hpre
  refine ⟨⟨hl, Nat.zero_le _, fun l h => absurd h List.not_mem_nil⟩, ?_⟩
  refine br_errsO (p := fun e => k (.tup [.reg 0 false, rI e]) [.sl (.int .i64) []]) (fun h => ?_) (fun h => ?_)
  · rw [open_nil] at h ⊢
    have e : fairL pr cl = [] := by unfold fairL; rw [if_neg h]
    rw [e] at hk; exact hk
  rw [open_nil] at h
  obtain ⟨f1, f2, f3, f4, f5, f6⟩ := fine_spec h
  have h8 := fair8_len (pr := pr) f4
  have hz : (8 : Nat) * (Ty.size (.int .i64)) = sizeT Try.prog 79 := by kernel_rfl
  have e : fairL pr cl = fairOf pr cl := by unfold fairL; rw [if_pos h]
  rw [e, h] at hk
  refine ⟨⟨h, rfl⟩, by rw [h8]; rfl, by rw [h8]; exact hz, by decide, ⟨by omega, rfl, by simp only [big]; omega⟩, h8, ?_⟩
  have e2 : List.take (List.replicate ((cl.length : Nat) : Int).toNat (Int.ofNat 0)).length (fair8 pr cl) ++ List.drop (fair8 pr cl).length (List.replicate ((cl.length : Nat) : Int).toNat (Int.ofNat 0)) = fairOf pr cl := by
    rw [Int.toNat_natCast, List.length_replicate, h8, List.drop_eq_nil_of_le (by rw [List.length_replicate]; exact f4), List.append_nil]
    unfold fair8
    rw [List.take_append_of_le_length (by rw [fair_len]; exact Nat.le_refl _), List.take_of_length_le (by rw [fair_len]; exact Nat.le_refl _)]
  rw [e2]
  exact hk

theorem fair_ok {pr : Int} {cl : List Int} (h : yearErr pr cl = 0) : sharesErr pr cl (fairOf pr cl) = 0 := by
  obtain ⟨f1, f2, f3, f4, f5, f6⟩ := fine_spec h
  have ha : anyOut 0 200 (fairOf pr cl) = false := by
    rw [← Bool.not_eq_true]
    intro hh
    obtain ⟨y, hy, ho⟩ := List.any_eq_true.1 hh
    obtain ⟨i, hi, rfl⟩ := List.getElem_of_mem hy
    have := fairUp_get cl pr.toNat i
    have e : (fairUp cl pr.toNat).getD i 0 = (fairOf pr cl)[i] := getD_at hi
    rw [e] at this
    simp only [outOf, decide_eq_true_eq] at ho
    omega
  have hs : sumL (fairOf pr cl) = pr := by
    have := fair_sum (cl := cl) (by omega) pr.toNat
    show sumL (fairUp cl pr.toNat) = pr
    rw [this]; omega
  unfold sharesErr
  rw [if_neg (by omega), if_neg (by rw [fair_len]; simp), if_neg (by simp [ha]), if_neg (by simp [hs])]

theorem k43 (hG : Good Try.prog (envOf [(20, mkC [v20]), (45, mkC [v45])])) : v43.Kept Try.prog 43 := by
  rintro ⟨pr, cl, ⟨⟩⟩ hpre k hk
  change Int at pr
  change List Int at cl
  refine aspec hmix hG Try.func43 tx43 (Eq.mpr (eq43 pr cl k) ?_)
  replace hk : k (.tup [.reg 0 false, .bool true]) [.sl (.int .i64) (fairOf pr cl)] := hk
  unfold vc43
  have h : yearErr pr cl = 0 := hpre
  obtain ⟨f1, f2, f3, f4, f5, f6⟩ := fine_spec h
  have e : fairL pr cl = fairOf pr cl := by unfold fairL; rw [if_pos h]
  rw [e, fair_ok h, h]
  refine ⟨by show cl.length ≤ 14; omega, br_intro (fun _ => ⟨⟨by show cl.length ≤ 14; omega, by show (fairOf pr cl).length ≤ 14; rw [fair_len]; omega⟩, hk⟩) (fun h' => by cases h')⟩
end Go.Abs.Farm
end

section
/- Plain laws of maps of one's own: what is found after an update, after a deletion; what a walk has left. -/
namespace Go.Abs

theorem mhas_cons (t : Ty) (e : Nat × t.den × Int) (l : MEnts t) (x : t.den) : mhas t (e :: l) x = (t.beq x e.2.1 || mhas t l x) := rfl
theorem mval_cons (t : Ty) (e : Nat × t.den × Int) (l : MEnts t) (x : t.den) : mval t (e :: l) x = if t.beq x e.2.1 then e.2.2 else mval t l x := rfl

theorem beq_self {t : Ty} (ht : t.ints = true) (x : t.den) : t.beq x x = true := (beq_eq t x x ht).2 rfl
theorem beq_ne {t : Ty} (ht : t.ints = true) {x y : t.den} (h : x ≠ y) : t.beq x y = false := by
  rw [← Bool.not_eq_true, beq_eq t _ _ ht]; exact h

theorem mhas_iff {t : Ty} (ht : t.ints = true) (l : MEnts t) (x : t.den) : mhas t l x = true ↔ ∃ e ∈ l, e.2.1 = x := by
  unfold mhas
  rw [List.any_eq_true]
  constructor
  · rintro ⟨e, h, h'⟩; exact ⟨e, h, ((beq_eq t _ _ ht).1 h').symm⟩
  · rintro ⟨e, h, h'⟩; exact ⟨e, h, (beq_eq t _ _ ht).2 h'.symm⟩

/-- What is there at a key. -/
def mat (t : Ty) (l : MEnts t) (x : t.den) : Option Int := if mhas t l x then some (mval t l x) else none

theorem mat_has {t : Ty} {l : MEnts t} {x : t.den} : mhas t l x = (mat t l x).isSome := by
  unfold mat; cases mhas t l x <;> rfl
theorem mat_val {t : Ty} {l : MEnts t} {x : t.den} {v : Int} (h : mat t l x = some v) : mval t l x = v := by
  unfold mat at h
  split at h
  · cases h; rfl
  · cases h
theorem mat_nil (t : Ty) (x : t.den) : mat t [] x = none := rfl
theorem mat_cons_beq (t : Ty) (e : Nat × t.den × Int) (l : MEnts t) (x : t.den) : mat t (e :: l) x = if t.beq x e.2.1 then some e.2.2 else mat t l x := by
  unfold mat
  rw [mhas_cons, mval_cons]
  cases t.beq x e.2.1 <;> simp
theorem mat_cons_same {t : Ty} (ht : t.ints = true) (b : Nat) (x : t.den) (v : Int) (l : MEnts t) : mat t ((b, x, v) :: l) x = some v := by
  rw [mat_cons_beq, beq_self ht]; rfl
theorem mat_cons_ne {t : Ty} (ht : t.ints = true) (b : Nat) {x y : t.den} (v : Int) (l : MEnts t) (h : y ≠ x) : mat t ((b, x, v) :: l) y = mat t l y := by
  rw [mat_cons_beq]
  rw [beq_ne ht h]; rfl
theorem mat_none {t : Ty} {l : MEnts t} {x : t.den} (h : mhas t l x = false) : mat t l x = none := by unfold mat; rw [h]; rfl

theorem mat_putL_same {t : Ty} (ht : t.ints = true) (x : t.den) (v : Int) : ∀ (l : MEnts t), mhas t l x = true → mat t (mputL t x v l) x = some v
  | [], h => by cases h
  | e :: l, h => by
    unfold mputL
    by_cases hb : t.beq x e.2.1 = true
    · rw [if_pos hb]; exact mat_cons_same ht _ x v l
    · rw [if_neg hb]
      rw [mhas_cons] at h
      have hb' : t.beq x e.2.1 = false := by simpa using hb
      rw [hb', Bool.false_or] at h
      rw [mat_cons_beq, hb']
      exact mat_putL_same ht x v l h
theorem mat_putL_ne {t : Ty} (ht : t.ints = true) (x : t.den) (v : Int) {y : t.den} (h : y ≠ x) : ∀ (l : MEnts t), mat t (mputL t x v l) y = mat t l y
  | [] => rfl
  | e :: l => by
    unfold mputL
    by_cases hb : t.beq x e.2.1 = true
    · rw [if_pos hb]
      have hx := (beq_eq t _ _ ht).1 hb
      rw [mat_cons_ne ht _ _ _ h, mat_cons_beq, beq_ne ht (by rw [← hx]; exact h)]; rfl
    · rw [if_neg hb, mat_cons_beq, mat_cons_beq, mat_putL_ne ht x v h l]
theorem mat_append (t : Ty) (l l' : MEnts t) (x : t.den) : mat t (l ++ l') x = (mat t l x).or (mat t l' x) := by
  induction l with
  | nil => rfl
  | cons e l ih =>
    rw [List.cons_append, mat_cons_beq, mat_cons_beq, ih]
    cases t.beq x e.2.1 <;> rfl

theorem mat_put_same {t : Ty} (ht : t.ints = true) (l : MEnts t) (clk : Nat) (x : t.den) (v : Int) : mat t (mput t l clk x v) x = some v := by
  unfold mput
  cases h : mhas t l x with
  | true => exact mat_putL_same ht x v l h
  | false =>
    simp only [Bool.false_eq_true, if_false]
    rw [mat_append, mat_none h, mat_cons_same ht]; rfl
theorem mat_put_ne {t : Ty} (ht : t.ints = true) (l : MEnts t) (clk : Nat) {x y : t.den} (v : Int) (h : y ≠ x) : mat t (mput t l clk x v) y = mat t l y := by
  unfold mput
  cases hx : mhas t l x with
  | true => exact mat_putL_ne ht x v h l
  | false =>
    simp only [Bool.false_eq_true, if_false]
    rw [mat_append, mat_cons_ne ht _ _ _ h, mat_nil]
    cases mat t l y <;> rfl

/-- Keys and times of birth are apart; all were born before now. -/
structure MOk (t : Ty) (l : MEnts t) (clk : Nat) : Prop where
  keys : (l.map (·.2.1)).Nodup
  births : (l.map (·.1)).Nodup
  lt : ∀ e ∈ l, e.1 < clk

theorem MOk.nil (t : Ty) : MOk t [] 0 := ⟨List.nodup_nil, List.nodup_nil, fun _ h => by cases h⟩

theorem mputL_keys {t : Ty} (ht : t.ints = true) (x : t.den) (v : Int) : ∀ (l : MEnts t), (mputL t x v l).map (·.2.1) = l.map (·.2.1)
  | [] => rfl
  | e :: l => by
    unfold mputL
    by_cases hb : t.beq x e.2.1 = true
    · rw [if_pos hb]; have := (beq_eq t _ _ ht).1 hb; simp [this]
    · rw [if_neg hb]; simp [mputL_keys ht x v l]
theorem mputL_births {t : Ty} (x : t.den) (v : Int) : ∀ (l : MEnts t), (mputL t x v l).map (·.1) = l.map (·.1)
  | [] => rfl
  | e :: l => by
    unfold mputL
    by_cases hb : t.beq x e.2.1 = true
    · rw [if_pos hb]; simp
    · rw [if_neg hb]; simp [mputL_births x v l]
theorem mem_births {t : Ty} {l l' : MEnts t} (h : l.map (·.1) = l'.map (·.1)) {e : Nat × t.den × Int} (he : e ∈ l) : ∃ e' ∈ l', e'.1 = e.1 := by
  have : e.1 ∈ l'.map (·.1) := by rw [← h]; exact List.mem_map_of_mem he
  simpa using this

theorem MOk.put {t : Ty} (ht : t.ints = true) {l : MEnts t} {clk : Nat} (h : MOk t l clk) (x : t.den) (v : Int) : MOk t (mput t l clk x v) (mclk t l clk x) := by
  unfold mput mclk
  cases hx : mhas t l x with
  | true =>
    simp only [if_true]
    exact ⟨by rw [mputL_keys ht]; exact h.keys, by rw [mputL_births]; exact h.births, fun e he => by
      obtain ⟨e', h1, h2⟩ := mem_births (mputL_births x v l) he
      rw [← h2]; exact h.lt e' h1⟩
  | false =>
    simp only [Bool.false_eq_true, if_false]
    refine ⟨?_, ?_, fun e he => ?_⟩
    · rw [List.map_append, List.nodup_append]
      refine ⟨h.keys, by simp, fun a ha b hb => ?_⟩
      simp only [List.map_cons, List.map_nil, List.mem_singleton] at hb
      subst hb
      rintro rfl
      simp only [List.mem_map] at ha
      have := (mhas_iff ht l a).2 ha
      rw [hx] at this; cases this
    · rw [List.map_append, List.nodup_append]
      refine ⟨h.births, by simp, fun a ha b hb => ?_⟩
      simp only [List.map_cons, List.map_nil, List.mem_singleton] at hb
      subst hb
      simp only [List.mem_map] at ha
      obtain ⟨e, he, rfl⟩ := ha
      have := h.lt e he
      omega
    · rcases List.mem_append.1 he with he | he
      · have := h.lt e he; omega
      · simp only [List.mem_singleton] at he; subst he; exact Nat.lt_succ_self _

theorem mdel_sub {t : Ty} (x : t.den) : ∀ (l : MEnts t), (mdel t x l).Sublist l
  | [] => .slnil
  | e :: l => by
    unfold mdel
    split
    · exact List.sublist_cons_self e l
    · exact (mdel_sub x l).cons_cons e
theorem MOk.del {t : Ty} {l : MEnts t} {clk : Nat} (h : MOk t l clk) (x : t.den) : MOk t (mdel t x l) clk :=
  ⟨h.keys.sublist ((mdel_sub x l).map _), h.births.sublist ((mdel_sub x l).map _), fun e he => h.lt e ((mdel_sub x l).subset he)⟩
theorem MOk.later {t : Ty} {l : MEnts t} {clk clk' : Nat} (h : MOk t l clk) (hc : clk ≤ clk') : MOk t l clk' := ⟨h.keys, h.births, fun e he => Nat.lt_of_lt_of_le (h.lt e he) hc⟩

theorem mat_del_ne {t : Ty} (ht : t.ints = true) {x y : t.den} (h : y ≠ x) : ∀ (l : MEnts t), mat t (mdel t x l) y = mat t l y
  | [] => rfl
  | e :: l => by
    unfold mdel
    by_cases hb : t.beq x e.2.1 = true
    · rw [if_pos hb]
      have hx := (beq_eq t _ _ ht).1 hb
      rw [mat_cons_beq, beq_ne ht (by rw [← hx]; exact h)]; rfl
    · rw [if_neg hb, mat_cons_beq, mat_cons_beq, mat_del_ne ht h l]
theorem mat_del_same {t : Ty} (ht : t.ints = true) (x : t.den) : ∀ (l : MEnts t), (l.map (·.2.1)).Nodup → mat t (mdel t x l) x = none
  | [], _ => rfl
  | e :: l, h => by
    simp only [List.map_cons, List.nodup_cons] at h
    unfold mdel
    by_cases hb : t.beq x e.2.1 = true
    · rw [if_pos hb]
      have hx := (beq_eq t _ _ ht).1 hb
      apply mat_none
      rw [← Bool.not_eq_true, mhas_iff ht]
      rintro ⟨e', h1, h2⟩
      exact h.1 (by rw [← hx, ← h2]; exact List.mem_map_of_mem h1)
    · rw [if_neg hb, mat_cons_beq, if_neg hb]
      exact mat_del_same ht x l h.2

/-- Entries are what is found. -/
theorem mat_mem {t : Ty} (ht : t.ints = true) : ∀ {l : MEnts t}, (l.map (·.2.1)).Nodup → ∀ {x : t.den} {v : Int}, mat t l x = some v ↔ ∃ b, (b, x, v) ∈ l
  | [], _, x, v => by simp [mat_nil]
  | (b0, y, u) :: l, h, x, v => by
    simp only [List.map_cons, List.nodup_cons] at h
    rw [mat_cons_beq]
    by_cases hb : t.beq x y = true
    · rw [if_pos hb]
      have hx := (beq_eq t _ _ ht).1 hb
      subst hx
      constructor
      · intro e; cases e; exact ⟨b0, List.mem_cons_self ..⟩
      · rintro ⟨b, hm⟩
        rcases List.mem_cons.1 hm with e | hm
        · cases e; rfl
        · exact absurd (List.mem_map_of_mem (f := fun e : Nat × t.den × Int => e.2.1) hm) h.1
    · rw [if_neg hb, mat_mem ht h.2]
      constructor
      · rintro ⟨b, hm⟩; exact ⟨b, List.mem_cons_of_mem _ hm⟩
      · rintro ⟨b, hm⟩
        rcases List.mem_cons.1 hm with e | hm
        · cases e; exact absurd (beq_self ht y) hb
        · exact ⟨b, hm⟩
theorem MOk.mat {t : Ty} (ht : t.ints = true) {l : MEnts t} {clk : Nat} (h : MOk t l clk) {e : Nat × t.den × Int} (he : e ∈ l) : Abs.mat t l e.2.1 = some e.2.2 := (mat_mem ht h.keys).2 ⟨e.1, he⟩

/-! ### keys that are numbers, or two of them -/
section
variable {k : IntKind} (l : List (Nat × Int × Int)) (clk : Nat) (x v : Int)
theorem matI_has : mhas (.int k) l x = (mat (.int k) l x).isSome := mat_has
theorem matI_val {l : List (Nat × Int × Int)} {x v : Int} (h : mat (.int k) l x = some v) : mval (.int k) l x = v := mat_val h
theorem matI_nil : mat (.int k) [] x = none := rfl
theorem matI_none {l : List (Nat × Int × Int)} {x : Int} (h : mhas (.int k) l x = false) : mat (.int k) l x = none := mat_none h
theorem matI_put_same : mat (.int k) (mput (.int k) l clk x v) x = some v := mat_put_same (t := .int k) rfl l clk x v
theorem matI_put_ne {x y : Int} (h : y ≠ x) : mat (.int k) (mput (.int k) l clk x v) y = mat (.int k) l y := mat_put_ne (t := .int k) rfl l clk v h
theorem matI_del_ne {x y : Int} (h : y ≠ x) : mat (.int k) (mdel (.int k) x l) y = mat (.int k) l y := mat_del_ne (t := .int k) rfl h l
theorem matI_del_same {l : List (Nat × Int × Int)} {clk : Nat} (h : MOk (.int k) l clk) : mat (.int k) (mdel (.int k) x l) x = none := mat_del_same (t := .int k) rfl x l h.keys
theorem MOk.putI {l : List (Nat × Int × Int)} {clk : Nat} (h : MOk (.int k) l clk) : MOk (.int k) (mput (.int k) l clk x v) (mclk (.int k) l clk x) := h.put rfl x v
theorem MOk.delI {l : List (Nat × Int × Int)} {clk : Nat} (h : MOk (.int k) l clk) : MOk (.int k) (mdel (.int k) x l) clk := h.del x
theorem matI_mem {l : List (Nat × Int × Int)} {clk : Nat} (h : MOk (.int k) l clk) {x v : Int} : mat (.int k) l x = some v ↔ ∃ b, (b, x, v) ∈ l := mat_mem (t := .int k) rfl h.keys
end
section
variable {k k' : IntKind} (l : List (Nat × (Int × Int) × Int)) (clk : Nat) (x : Int × Int) (v : Int)
theorem matP_has : mhas (.pair (.int k) (.int k')) l x = (mat (.pair (.int k) (.int k')) l x).isSome := mat_has
theorem matP_val {l : List (Nat × (Int × Int) × Int)} {x : Int × Int} {v : Int} (h : mat (.pair (.int k) (.int k')) l x = some v) : mval (.pair (.int k) (.int k')) l x = v := mat_val h
theorem matP_nil : mat (.pair (.int k) (.int k')) [] x = none := rfl
theorem matP_none {l : List (Nat × (Int × Int) × Int)} {x : Int × Int} (h : mhas (.pair (.int k) (.int k')) l x = false) : mat (.pair (.int k) (.int k')) l x = none := mat_none h
theorem matP_put_same : mat (.pair (.int k) (.int k')) (mput (.pair (.int k) (.int k')) l clk x v) x = some v := mat_put_same (t := .pair (.int k) (.int k')) rfl l clk x v
theorem matP_put_ne {x y : Int × Int} (h : y ≠ x) : mat (.pair (.int k) (.int k')) (mput (.pair (.int k) (.int k')) l clk x v) y = mat (.pair (.int k) (.int k')) l y := mat_put_ne (t := .pair (.int k) (.int k')) rfl l clk v h
theorem matP_del_ne {x y : Int × Int} (h : y ≠ x) : mat (.pair (.int k) (.int k')) (mdel (.pair (.int k) (.int k')) x l) y = mat (.pair (.int k) (.int k')) l y := mat_del_ne (t := .pair (.int k) (.int k')) rfl h l
theorem matP_del_same {l : List (Nat × (Int × Int) × Int)} {clk : Nat} (h : MOk (.pair (.int k) (.int k')) l clk) : mat (.pair (.int k) (.int k')) (mdel (.pair (.int k) (.int k')) x l) x = none := mat_del_same (t := .pair (.int k) (.int k')) rfl x l h.keys
theorem MOk.putP {l : List (Nat × (Int × Int) × Int)} {clk : Nat} (h : MOk (.pair (.int k) (.int k')) l clk) : MOk (.pair (.int k) (.int k')) (mput (.pair (.int k) (.int k')) l clk x v) (mclk (.pair (.int k) (.int k')) l clk x) := h.put rfl x v
theorem MOk.delP {l : List (Nat × (Int × Int) × Int)} {clk : Nat} (h : MOk (.pair (.int k) (.int k')) l clk) : MOk (.pair (.int k) (.int k')) (mdel (.pair (.int k) (.int k')) x l) clk := h.del x
theorem matP_mem {l : List (Nat × (Int × Int) × Int)} {clk : Nat} (h : MOk (.pair (.int k) (.int k')) l clk) {x : Int × Int} {v : Int} : mat (.pair (.int k) (.int k')) l x = some v ↔ ∃ b, (b, x, v) ∈ l := mat_mem (t := .pair (.int k) (.int k')) rfl h.keys
end

/-! ### walks -/
theorem mem_mleft {t : Ty} {l : MEnts t} {seen : List Nat} {e : Nat × t.den × Int} : e ∈ mleft t l seen ↔ e ∈ l ∧ e.1 ∉ seen := by
  unfold mleft; simp
theorem mleft_nil {t : Ty} {l : MEnts t} {seen : List Nat} (h : mleft t l seen = []) {e : Nat × t.den × Int} (he : e ∈ l) : e.1 ∈ seen := by
  rcases Classical.em (e.1 ∈ seen) with h1 | h1
  · exact h1
  · have := mem_mleft.2 ⟨he, h1⟩
    rw [h] at this; cases this
/-- One less is left. -/
theorem mleft_less {t : Ty} {l : MEnts t} {seen : List Nat} {e : Nat × t.den × Int} (he : e ∈ mleft t l seen) : (mleft t l (seen ++ [e.1])).length < (mleft t l seen).length := by
  have h1 : mleft t l (seen ++ [e.1]) = (mleft t l seen).filter (fun x => !decide (x.1 = e.1)) := by
    unfold mleft
    rw [List.filter_filter]
    apply List.filter_congr
    intro x _
    simp [List.contains_eq_mem, List.mem_append]
    by_cases h : x.1 ∈ seen <;> by_cases h2 : x.1 = e.1 <;> simp [h, h2]
  rw [h1]
  have : ∀ (l : MEnts t), e ∈ l → (l.filter (fun x => !decide (x.1 = e.1))).length < l.length := by
    intro l
    induction l with
    | nil => intro h; cases h
    | cons a l ih =>
      intro h
      rcases List.mem_cons.1 h with rfl | h
      · rw [List.filter_cons_of_neg (by simp)]
        have := List.length_filter_le (fun x : Nat × t.den × Int => !decide (x.1 = e.1)) l
        simp only [List.length_cons]; omega
      · have := ih h
        rw [List.filter_cons]
        split <;> simp only [List.length_cons] <;> omega
  exact this _ he
/-- A birth says which entry. -/
theorem MOk.birth {t : Ty} {l : MEnts t} {clk : Nat} (h : MOk t l clk) {e e' : Nat × t.den × Int} (he : e ∈ l) (he' : e' ∈ l) (hb : e.1 = e'.1) : e = e' := by
  have key : ∀ (l : MEnts t), (l.map (·.1)).Nodup → e ∈ l → e' ∈ l → e = e' := by
    intro l hn he he'
    induction l with
    | nil => cases he
    | cons a l ih =>
      simp only [List.map_cons, List.nodup_cons] at hn
      rcases List.mem_cons.1 he with h1 | h1
      · rcases List.mem_cons.1 he' with h2 | h2
        · rw [h1, h2]
        · exact absurd (by rw [← h1, hb]; exact List.mem_map_of_mem (f := fun e : Nat × t.den × Int => e.1) h2) hn.1
      · rcases List.mem_cons.1 he' with h2 | h2
        · exact absurd (by rw [← h2, ← hb]; exact List.mem_map_of_mem (f := fun e : Nat × t.den × Int => e.1) h1) hn.1
        · exact ih hn.2 h1 h2
  exact key l h.births he he'
end Go.Abs
end

section
/- The farm's functions keep their contracts: the map of claims. -/
open Go.Proofs
set_option maxRecDepth 100000
set_option linter.unusedVariables false
namespace Go.Abs.Farm

abbrev ML := List (Nat × (Int × Int) × Int)
def pmat (m : ML) (x : Int × Int) : Option Int := mat tB m x
def pput (m : ML) (clk : Nat) (x : Int × Int) (v : Int) : ML := mput tB m clk x v
def pclk (m : ML) (clk : Nat) (x : Int × Int) : Nat := mclk tB m clk x
def pdel (x : Int × Int) (m : ML) : ML := mdel tB x m
/-- A map that holds these claims, each with its coin. -/
structure WMap (m : ML) (clk : Nat) (S : Int × Int → Prop) : Prop where
  ok : MOk tB m clk
  at_ : ∀ (x : Int × Int) (v : Int), pmat m x = some v ↔ S x ∧ v = x.2
theorem WMap.nil : WMap [] 0 (fun _ => False) := ⟨MOk.nil _, fun x v => ⟨fun h => (by cases (show (none : Option Int) = some v from h)), fun h => h.1.elim⟩⟩
theorem WMap.put {m : ML} {clk : Nat} {S : Int × Int → Prop} (h : WMap m clk S) (x : Int × Int) : WMap (pput m clk x x.2) (pclk m clk x) (fun y => S y ∨ y = x) := by
  refine ⟨MOk.putP x x.2 h.ok, fun y v => ?_⟩
  by_cases e : y = x
  · subst e
    have : pmat (pput m clk y y.2) y = some y.2 := matP_put_same m clk y y.2
    rw [this]
    constructor
    · intro h1; cases h1; exact ⟨.inr rfl, rfl⟩
    · rintro ⟨_, rfl⟩; rfl
  · have : pmat (pput m clk x x.2) y = pmat m y := matP_put_ne m clk x.2 e
    rw [this, h.at_]
    exact ⟨fun h1 => ⟨.inl h1.1, h1.2⟩, fun h1 => ⟨h1.1.resolve_right e, h1.2⟩⟩
theorem WMap.del {m : ML} {clk : Nat} {S : Int × Int → Prop} (h : WMap m clk S) (x : Int × Int) : WMap (pdel x m) clk (fun y => S y ∧ y ≠ x) := by
  refine ⟨MOk.delP x h.ok, fun y v => ?_⟩
  by_cases e : y = x
  · subst e
    have : pmat (pdel y m) y = none := matP_del_same y h.ok
    rw [this]
    constructor
    · intro h1; cases h1
    · rintro ⟨⟨_, h1⟩, _⟩; exact absurd rfl h1
  · have : pmat (pdel x m) y = pmat m y := matP_del_ne m e
    rw [this, h.at_]
    exact ⟨fun h1 => ⟨⟨h1.1, e⟩, h1.2⟩, fun h1 => ⟨h1.1.1, h1.2⟩⟩
theorem WMap.congr {m : ML} {clk : Nat} {S T : Int × Int → Prop} (h : WMap m clk S) (hst : ∀ x, S x ↔ T x) : WMap m clk T := ⟨h.ok, fun x v => by rw [h.at_, hst]⟩
theorem WMap.mem {m : ML} {clk : Nat} {S : Int × Int → Prop} (h : WMap m clk S) {e : Nat × (Int × Int) × Int} (he : e ∈ m) : S e.2.1 ∧ e.2.2 = e.2.1.2 := by
  have : pmat m e.2.1 = some e.2.2 := (matP_mem h.ok).2 ⟨e.1, he⟩
  exact (h.at_ _ _).1 this
theorem WMap.has {m : ML} {clk : Nat} {S : Int × Int → Prop} (h : WMap m clk S) {x : Int × Int} (hx : S x) : ∃ b, (b, x, x.2) ∈ m := (matP_mem h.ok).1 ((h.at_ x x.2).2 ⟨hx, rfl⟩)
end Go.Abs.Farm
end

