import Derived.Test.Qxb6500680aGreatDoorTyfn
namespace Go.Proofs.Qxb6500680aGreatDoor
def shapeT (P : Program) (t : TypeId) : Option Sh1 :=
  match P.underlying t with
  | some (.int k) => some (.cell (.int k))
  | some .bool => some (.cell .bool)
  | some (.struct _) => (zeroT P t).map .agg
  | _ => none
def shapesT (P : Program) : List TypeId → Option (List Sh1)
  | [] => some []
  | t :: r => match shapeT P t, shapesT P r with
    | some s, some ss => some (s :: ss)
    | _, _ => none
def sgOf (P : Program) (f : FuncId) : Option Sg :=
  match P.funcs[f]? with
  | some fn => match shapesT P fn.params.toList, shapesT P fn.resultTypes.toList with
    | some ps, some rs => some ⟨f, ps, shOf rs⟩
    | _, _ => none
  | none => none
/-- The list of functions, callees first: each is checked upon those ahead of it. -/
def sgs (P : Program) : List FuncId → List Sg
  | [] => []
  | f :: r => match sgOf P f with
    | some g => g :: sgs P r
    | none => sgs P r
end Go.Proofs.Qxb6500680aGreatDoor
