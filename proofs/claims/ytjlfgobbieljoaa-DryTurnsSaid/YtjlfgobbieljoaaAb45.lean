/- The abstract layer, part 45: loops unrolled; scopes in which the run jumps back to a label; copy; append onto a part of a row in place. -/
import Derived.Test.YtjlfgobbieljoaaAb44
set_option linter.all false
set_option linter.unusedSimpArgs false
namespace Go.Ab
open Go.RowKit
section
variable {F : Fence} {n : Nat} {P : Program} {Q : Exit → Act → World → Prop} {a : Act} {w : World}
def LoopIn (F : Fence) (n : Nat) (P : Program) (c : Code) (Q : Exit → Act → World → Prop) (a : Act) (w : World) : Prop :=
  ∀ (b : Frame) (k : List Item) (cs : List Frame), b.roundOf = F.round → F.fn b.fn → F.room (cs.length + 1 + n) →
    ∃ e a' w', Q e a' w' ∧ ArrivesIn (Machine.fenced P F) P (lone (b.atR a (.code c :: .inLoop c :: k)) cs w) b k cs e a' w'
theorem loopIn_start {c : Code} (h : LoopIn F n P c Q a w) : (Code.loop c).wpIn F n P Q a w := fun b k cs hro hb hr => by
  obtain ⟨e, a', w', hq, harr⟩ := h b k cs hro hb hr
  exact ⟨e, a', w', hq, .of_steps (.one (fenced_calm hb hr rfl) stepR_loop) harr⟩
theorem loopIn_round {c : Code} (h : c.wpIn F n P (Exit.then (LoopIn F n P c Q) Q) a w) : LoopIn F n P c Q a w := fun b k cs hro hb hr => by
  obtain ⟨e, a₁, w₁, hq, harr⟩ := h b (.inLoop c :: k) cs hro hb hr
  cases e with
  | normal =>
    obtain ⟨e₂, a₂, w₂, hq₂, harr₂⟩ := hq b k cs hro hb hr
    exact ⟨e₂, a₂, w₂, hq₂, .of_steps (StepsIn.trans harr (.one (fenced_calm hb hr rfl) stepR_inLoop)) harr₂⟩
  | exit id => exact ⟨_, a₁, w₁, hq, .pass (x := .inLoop c) rfl (fun _ _ => .inl (by simp)) harr⟩
  | goto l => exact ⟨_, a₁, w₁, hq, .pass (x := .inLoop c) rfl (fun _ _ => .inl (by simp)) harr⟩
  | ret => exact ⟨_, a₁, w₁, hq, .pass (x := .inLoop c) rfl (fun _ _ => .inl (by simp)) harr⟩
  | panic ch => exact ⟨_, a₁, w₁, hq, .pass (x := .inLoop c) rfl (fun _ _ => .inl (by simp)) harr⟩
  | outgrown => exact ⟨_, a₁, w₁, hq, .pass (x := .inLoop c) rfl (fun _ _ => .inl (by simp)) harr⟩
end
section
variable {cx : Cx} {S S0 : St}
def ALoop (cx : Cx) (c : Code) (K : Exit → St → Prop) (S : St) : Prop := ∀ a w, Sim cx S a w → LoopIn cx.fence 0 cx.P c (Post cx K) a w
def unK (cx : Cx) (c : Code) (K : Exit → St → Prop) : Exit → St → Prop
  | .normal, S => ALoop cx c K S
  | e, S => K e S
theorem awp_ul {c : Code} {K : Exit → St → Prop} (h : ALoop cx c K S) : AWp cx (.loop c) K S := fun a w hs => loopIn_start (h a w hs)
theorem ul_un {c : Code} {K : Exit → St → Prop} (hl : Le cx S S0) (h : AWp cx c (unK cx c K) S0) : ALoop cx c K S := fun a w hs => by
  refine loopIn_round (wpIn_mono (h a w (hl a w hs)) ?_)
  rintro e a' w' (⟨S', h1, h2⟩ | ⟨rfl, hf⟩)
  · cases e with
    | normal => exact h2 a' w' h1
    | _ => exact .inl ⟨S', h1, h2⟩
  · exact .inr ⟨rfl, hf⟩
end
section
variable {cx : Cx} {S : St} {a : Act} {w : World} {o : Oper}
theorem SimU.noViews {μ : Nat → Option (Nat × Nat)} (h : SimU cx S a w μ) : SimU cx ⟨S.F, noViews S.M⟩ a w μ := h.weak (fun i => .inr rfl) fun t => by
  show Ab.noViews S.M t = S.M t ∨ Ab.noViews S.M t = ((S.M t).1, none)
  unfold Ab.noViews
  cases hq : (S.M t).2 with
  | none => exact .inl rfl
  | some b' =>
    simp only
    split
    · exact .inr rfl
    · exact .inl rfl
end
end Go.Ab
