/-
  A part of a small executor of the model, proved sound (Mx32 of 46). No condition.
-/
import Derived.Test.YtmplmfieipckjaaGreatDoorXMx31
namespace Go.Mx
noncomputable section
variable {P : Program} {ρ : Ren} {h : T O} {nx : Nat} {w : World} {ng nt : Nat} {ck : CK} {ops : Array Oper}
def DR (ρ : Ren) : V → List Deferred → Prop
  | .nil, ds => ds = []
  | .cons (.cons (.f g c) args) r, ds => ∃ caps vs rest, ds = { target := .fn (.func g) ⟨caps⟩, args := ⟨vs⟩ } :: rest ∧ VRs ρ c caps ∧ VRs ρ args vs ∧ DR ρ r rest
  | _, _ => False
theorem DR.mono {ρ' : Ren} (hle : Ren.le ρ ρ') : ∀ {D : V} {ds : List Deferred}, DR ρ D ds → DR ρ' D ds := by
  intro D
  induction D with
  | nil => intro ds h; simpa [DR] using h
  | cons d r ihd ih =>
    intro ds h
    clear ihd
    cases d <;> first | (simp [DR] at h; done) | skip
    case cons f args =>
      cases f <;> first | (simp [DR] at h; done) | skip
      case f g c =>
        simp only [DR] at h ⊢
        obtain ⟨caps, vs, rest, h1, h2, h3, h4⟩ := h
        exact ⟨caps, vs, rest, h1, h2.mono hle, h3.mono hle, ih h4⟩
  | _ => intro ds h; simp [DR] at h
def UM (ρ : Ren) : V → FrameMode → Prop
  | .nil, u => u = .returning
  | .cons v .nil, u => ∃ x, VR ρ v x ∧ u = .panicking [{ v := x, recovered := false }]
  | .cons v (.cons _ .nil), u => ∃ x, VR ρ v x ∧ u = .panicking [{ v := x, recovered := true }]
  | _, _ => False
theorem UM.mono {ρ' : Ren} (hle : Ren.le ρ ρ') {U : V} {u : FrameMode} (h : UM ρ U u) : UM ρ' U u := by
  unfold UM at h ⊢
  split at h
  · exact h
  · obtain ⟨x, h1, h2⟩ := h; exact ⟨x, h1.mono hle, h2⟩
  · obtain ⟨x, h1, h2⟩ := h; exact ⟨x, h1.mono hle, h2⟩
  · exact h.elim
def UR (ρ : Ren) (dk : Bool) (U : V) (c0 : Frame) (cs0 cs : List Frame) : Prop :=
  match dk with
  | false => U = .b false ∧ cs = cs0
  | true => ∃ u, cs = { c0 with mode := u } :: cs0 ∧ UM ρ U u
theorem UR.mono {ρ' : Ren} (hle : Ren.le ρ ρ') {dk : Bool} {U : V} {c0 : Frame} {cs0 cs : List Frame} (h : UR ρ dk U c0 cs0 cs) : UR ρ' dk U c0 cs0 cs := by
  cases dk with
  | false => exact h
  | true => obtain ⟨u, h1, h2⟩ := h; exact ⟨u, h1, h2.mono hle⟩
end
end Go.Mx
