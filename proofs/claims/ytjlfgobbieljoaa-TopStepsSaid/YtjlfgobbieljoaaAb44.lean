/- The abstract layer, part 44: a call in a region that draws, ahead of which a block is frozen. -/
import Derived.Test.YtjlfgobbieljoaaAbH
set_option linter.all false
set_option linter.unusedSimpArgs false
namespace Go.Ab
open Go.RowKit
section
variable {cx : Cx} {P : Program} {N : Nat} {ops : Array Oper} {rest : List Oper} {l : List (Nat × SV)} {m : List (Nat × Nat × Option Blk)} {KD : List It → St → Prop} {its : List It}
  {d : Nat} {ty : TypeId} {p : String} {af : Array Edge}
theorem zqAZ {f' : Operand} {args : Array Operand} {ts : Array TypeId} {f : FuncId} {pre ds caps : List DV} {res : Res} {v : SV} {t g : Nat} {b : Blk} (R : List Nat)
    (h0 : mkM m t = (g, some b)) (h1 : OwS b.st ∨ b.st = 1) (ht : t ∈ R) (hf : St.ev ⟨lk l, mkM m⟩ f' = .dv (.fn f pre caps))
    (ha : ArgsSV (Lasting (rst R (mkM ((t, g, some { b with st := 1 }) :: m)))) (args.toList.map (St.ev ⟨lk l, mkM m⟩)) ds) (hc : ACalls P f (pre ++ ds ++ caps) res)
    (he : resEff d ⟨lk l, mkM ((t, g, some { b with st := 1 }) :: m)⟩ res = ⟨some d, v, false, []⟩)
    (k : DChain cx ops rest (⟨R ++ resTags d res, ⟨some d, v, false, [(t, g, some { b with st := 1 })]⟩⟩ :: its) ⟨lk ((d, v) :: l), mkM ((t, g, some { b with st := 1 }) :: m)⟩ KD) (hP : cx.P = P := by assumption) (hn : cx.n = N := by assumption) (hd : d < N := by decide) :
    DChain cx ops (⟨some d, .call { callee := .value f', args := args, argTypes := ts }, ty, p, af, none⟩ :: rest) its ⟨lk l, mkM m⟩ KD := by
  subst hP; subst hn
  refine ⟨⟨R ++ resTags d res, ⟨some d, v, false, [(t, g, some { b with st := 1 })]⟩⟩, ⟨rfl, fun q hq => ?_, fun hk => by simp at hk⟩, ?_, ?_⟩
  · simp only [List.mem_singleton] at hq
    subst hq
    exact List.mem_append_left _ ht
  · intro T t1 t2
    show Step cx T _ _
    have hT : T.M t = (g, some b) := by rw [t2 t (List.mem_append_left _ ht)]; exact h0
    have hle := Le.freeze (cx := cx) (S := T) hT h1
    have hst := stepL_call (cx := cx) (ops := ops) (S := ⟨lk l, mkM ((t, g, some { b with st := 1 }) :: m)⟩) (o := ⟨some d, .call { callee := .value f', args := args, argTypes := ts }, ty, p, af, none⟩) rfl hd rfl (by exact hf) (.inr ⟨ha, hc⟩) ⟨T.F, upd T.M t (g, some { b with st := 1 })⟩ t1 (fun u hu => by
      show upd T.M t _ u = mkM _ u
      rw [← upd_mkM]
      unfold upd
      split
      · rfl
      · exact t2 u hu)
    rw [he] at hst
    exact .sem fun hg a w h => Step.does hg (hle a w h) hst
  · have e : (Eff.app ⟨lk l, mkM m⟩ ⟨some d, v, false, [(t, g, some { b with st := 1 })]⟩) = ⟨lk ((d, v) :: l), mkM ((t, g, some { b with st := 1 }) :: m)⟩ := by
      unfold Eff.app
      simp only [upd_lk]
      congr 1
    rw [e]
    exact k
end
end Go.Ab
