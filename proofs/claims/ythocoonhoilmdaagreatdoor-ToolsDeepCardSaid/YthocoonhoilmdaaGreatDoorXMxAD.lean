/-
  A part of a small executor of the model, proved sound (24 of 28). No condition.
-/
import Derived.Test.YthocoonhoilmdaaGreatDoorXMxAB
import Derived.Test.YthocoonhoilmdaaGreatDoorXMxN
namespace Go.Mx
open Instr Builtin RowKit
noncomputable section
variable {P : Program} {ρ : Ren} {h : T O} {nx : Nat} {w : World} {ng : Nat}
def noSet (cs : List Nat) (y : V) : Bool := List.rec (motive := fun _ => Bool) true (fun n _ ih => ite1 (pieceNo n y) ih) cs
def hitSet (cs : List Nat) (y : V) : Bool := V.rec (motive := fun _ => Bool) (false) (fun _ _ _ _ => false) (fun _ => false) (fun _ n => List.rec (motive := fun _ => Bool) false (fun m _ ih => Bool.rec ih true (ieq n (Int.ofNat m))) cs) (fun _ => false) (fun _ _ => false) (false) (fun _ _ _ _ => false) (false) (false) (false) (fun _ => false) (false) (fun _ _ _ => false) (false) (fun _ _ _ => false) (false) (fun _ _ => false) (fun _ _ => false) (fun _ _ _ _ => false) (fun _ _ => false) (fun _ _ _ _ _ => false) (fun _ _ _ _ _ _ => false) y
def idxG (cs : List Nat) (c : V) : V → (V → Bool) → Bool → Bool := chain (M := V → (V → Bool) → Bool → Bool) (fun _ _ d => d)
  (fun y _ ih S k d => Bool.rec (ite1 (hitSet cs y) (k S)) (lenE y S fun S' => ih S' k d) (noSet cs y)) c
def ansK (cs : List Nat) (c : V) (K : V → Bool) : Bool := idxG cs c .nil (fun S => mkR 3 S K) (K (.i .i64 (Int.negSucc 0)))
def hkIndexByteP : HookF := fun args h nx K => arg0 args fun x r => arg0 r fun y r' => chain (M := Bool) (ropK x fun c => vI y fun kd n => ite1 (keq kd .u8) <| Int.rec (motive := fun _ => Bool) (fun m => ite1 (Nat.blt m 256) <| ansK [m] c fun v => K v h nx) (fun _ => false) n) (fun _ _ _ => false) r'
def asc7R (c : V) : Bool := chain true (fun y _ ih => Bool.rec false ih (V.rec (motive := fun _ => Bool) (false) (fun _ _ _ _ => false) (fun _ => false) (fun _ n => ilt n (Int.ofNat 128)) (fun _ => false) (fun _ _ => false) (false) (fun _ _ _ _ => false) (false) (false) (false) (fun _ => false) (false) (fun _ _ _ => false) (false) (fun _ _ _ => false) (false) (fun _ _ => false) (fun _ _ => false) (fun _ _ _ hi => Nat.blt hi 128) (fun _ _ => false) (fun _ _ _ _ _ => false) (fun t l _ _ _ _ => ite1 (Nat.beq t 1) <| mskIn 0 127 (mskV l)) y)) c
def hkIndexAnyP : HookF := fun args h nx K => arg0 args fun x r => arg0 r fun y r' => chain (M := Bool) (ropK x fun c => vS y fun cs => ite1 (ascB cs) <| ite1 (asc7R c) <| slenK cs 0 fun m => ite1 (Nat.ble m 1000) <| atMost c 1000000 fun _ => ansK cs c fun v => K v h nx) (fun _ _ _ => false) r'
end
end Go.Mx
namespace Go.Mx
open Instr Builtin
noncomputable section
variable {P : Program} {ρ : Ren} {h : T O} {nx : Nat} {w : World} {ng : Nat}
end
end Go.Mx
