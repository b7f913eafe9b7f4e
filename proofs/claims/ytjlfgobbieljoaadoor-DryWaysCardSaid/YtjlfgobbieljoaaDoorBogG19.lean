/- Ab36, Ab37, Ab38, Ab49, Ab50, WayT, Ab48, WayLb. -/
import Derived.Test.YtjlfgobbieljoaaDoorBogG18
import Derived.Test.YtjlfgobbieljoaaDoorBogG15
import Derived.Test.YtjlfgobbieljoaaDoorBogG16
import Derived.Test.YtjlfgobbieljoaaDoorBogG08
import Derived.Test.YtjlfgobbieljoaaDoorBogG09
set_option linter.all false
set_option linter.all false
namespace Go.Ab
open Go.RowKit
section
variable {cx : Cx} {S S' : St} {a : Act} {w w' : World} {μ : Nat → Option (Nat × Nat)}
end
end Go.Ab
set_option linter.all false
namespace Go.Ab
open Go.RowKit
section
variable {P : Program} {S : St} {x y : Operand} {t e by' tg g o : Nat} {ob : Option Blk}
end
end Go.Ab
set_option linter.all false
set_option linter.unusedSimpArgs false
namespace Go.Ab
open Go.RowKit
section
variable {cx : Cx} {P : Program} {N : Nat} {ops : Array Oper} {rest : List Oper} {l : List (Nat × SV)} {m : List (Nat × Nat × Option Blk)} {K : St → Prop}
  {d : Nat} {ty : TypeId} {p : String} {af : Array Edge} {gd : Option (Nat × Bool)}
end
end Go.Ab
set_option linter.all false
set_option linter.unusedSimpArgs false
namespace Go.Ab
open Go.RowKit
section
variable {P : Program} {S : St} {x y : Operand} {t src dst e : TypeId} {k : IntKind}
end
section
variable {cx : Cx} {P : Program} {N : Nat} {ops : Array Oper} {rest : List Oper} {l : List (Nat × SV)} {m : List (Nat × Nat × Option Blk)} {K : St → Prop}
  {d : Nat} {ty : TypeId} {p : String} {af : Array Edge} {gd : Option (Nat × Bool)}
end
end Go.Ab
set_option linter.all false
namespace Go.Ab
open Go.RowKit
abbrev Tx := List UInt8
abbrev bs (l : Tx) : ByteArray := ⟨l.toArray⟩
theorem bs_inj {a b : Tx} : bs a = bs b ↔ a = b := ⟨fun h => by have := congrArg (fun s : ByteArray => s.data.toList) h; simpa using this, fun h => by rw [h]⟩
theorem bs_size (a : Tx) : (bs a).size = a.length := by simp [bs, ByteArray.size]
section
variable {P : Program} {S : St} {x y : Operand} {t src dst e t2 : TypeId} {k : IntKind} {ob : Option Blk}
end
end Go.Ab
set_option linter.all false
namespace Go.Ab.Tryd
open Go Go.Ab Go.Proofs Go.RowKit
abbrev dTx (T : Tx) : DV := .str (bs T)
abbrev txs (L : List Tx) : DV := .list (L.map dTx)
abbrev rowX (L : List Tx) : Blk := ⟨L.map fun T => .dv (dTx T), 1, 9, 0, true⟩
theorem dTx_inj {a b : Tx} : dTx a = dTx b ↔ a = b := ⟨fun h => by injection h with h; exact bs_inj.1 h, fun h => by rw [h]⟩
theorem svLes_txs {τ : Nat → Option Nat} {M M' : Nat → Nat × Option Blk} : ∀ {L L' : List Tx}, svLes τ M M' (L.map fun T => .dv (dTx T)) (L'.map fun T => .dv (dTx T)) ↔ L = L'
  | [], [] => by simp [svLes]
  | [], _ :: _ => by simp [svLes]
  | _ :: _, [] => by simp [svLes]
  | a :: L, b :: L' => by
    simp only [List.map_cons, svLes, svLe, List.cons.injEq]
    rw [svLes_txs (L := L) (L' := L'), dTx_inj]
theorem tx_snoc {L : List Tx} {v : Tx} : (L.map fun T => SV.dv (dTx T)) ++ [SV.dv (dTx v)] = (L ++ [v]).map fun T => .dv (dTx T) := by simp
section
variable {l : List (Nat × SV)} {m : List (Nat × Nat × Option Blk)} {d g : Nat} {L : List Tx}
end
theorem data_txs {ok : Nat → Prop} {okd : DV → Prop} {M : Nat → Nat × Option Blk} {t g n : Nat} {L : List Tx} (hM : M t = (g, some (rowX L))) (hst : ok 0) (hl : L.length = n) (hd : ∀ T, okd (dTx T)) : Data ok okd M (.sl t g 0 n) (txs L) := by
  have hf : flat (L.map dTx) = L.map dTx := flat_one fun _ => rfl
  refine data_row hM hst (by simpa using hl) (fun d hd' => ?_) ?_ fun c hc' => ?_
  · obtain ⟨q, _, rfl⟩ := List.mem_map.1 hd'; rfl
  · rw [hf]; simp
  · rw [hf] at hc'; obtain ⟨q, _, rfl⟩ := List.mem_map.1 hc'; exact hd q
end Go.Ab.Tryd
set_option linter.all false
namespace Go.Ab
open Go.RowKit
theorem rep_str {w : World} {X : Nat → Prop} {s : ByteArray} {v : Value} (h : RepD w X (.str s) v) : v = .string s := by cases h; rfl
theorem rep_int {w : World} {X : Nat → Prop} {k : IntKind} {n : Int} {v : Value} (h : RepD w X (.int k n) v) : v = .int k n := by cases h; rfl
theorem args1 {w : World} {X : Nat → Prop} {d : DV} {vs : Array Value} {v : Value} (h : Args w X [d] vs) (hv : ∀ u, RepD w X d u → u = v) : vs = #[v] := by
  obtain ⟨h1, h2⟩ := h
  have e := hv _ (h2 0 d rfl)
  cases vs with
  | mk l =>
    match l, h1 with
    | [u], _ =>
      have e2 : u = v := by simpa using e
      rw [e2]
theorem res_dv {B : Nat} {w : World} {Y : Nat → Prop} {d : DV} {v : Value} (h : RepD w (fun b => Y b ∨ usedBy [none] b) d v) : ResRep B w Y (.one (.dv d)) v := ⟨none, rfl, h⟩
end Go.Ab
set_option linter.all false
namespace Go.Ab.Tryd
open Go Go.Ab Go.Proofs Go.RowKit
theorem en35 : EnterP Tryd.prog 35 := ⟨_, Tryd.func35, rfl, rfl⟩
theorem en36 : EnterP Tryd.prog 36 := ⟨_, Tryd.func36, rfl, rfl⟩
def dg (x : Int) : Tx := Lib.decDigits x.toNat
theorem f35 (x : Int) (h0 : 0 ≤ x) (h1 : x < 100) : ACallsF Tryd.prog 35 [i64 x] (.one (.dv (.str (bs (dg x))))) := by
  refine ⟨en35, fun w vs hl ha => ?_⟩
  obtain rfl := args1 ha fun u hu => rep_int hu
  have := Tryd.strconv_Itoa_small x.toNat (by omega) w
  rw [show ((x.toNat : Nat) : Int) = x by omega] at this
  refine this.mono fun e w' ⟨he, hw⟩ => ?_
  subst he; subst hw
  exact ⟨_, rfl, Below.refl _ _, res_dv (.str _)⟩
theorem f36 (L : List Tx) (sep : Tx) (hne : L ≠ []) (hN : L.length ≤ 140737488355328) (hlen : (Lib.join L sep).length ≤ 140737488355328) : ACallsF Tryd.prog 36 [txs L, dTx sep] (.one (.dv (.str (bs (Lib.join L sep))))) := by
  refine ⟨en36, fun w vs hl ha => ?_⟩
  obtain ⟨h1, h2⟩ := ha
  obtain ⟨l⟩ := vs
  match l, h1, h2 with
  | [u, v], _, h2 =>
    have r0 : RepD w (fun _ => False) (txs L) u := h2 0 _ rfl
    have r1 : v = .string (bs sep) := rep_str (h2 1 _ rfl)
    subst r1
    have hf : flat (L.map dTx) = L.map dTx := flat_one fun _ => rfl
    have main : ∃ b o c, u = .slice (some ⟨b, o, none⟩) L.length c ∧ b < w.heap.size ∧ L.length ≤ c ∧ ∀ (j : Nat) x, (L.map bs)[j]? = some x → w.cell? ⟨b, o + j, none⟩ = some (.string x) := by
      have key : ∀ D, RepD w (fun _ => False) (.list D) u → D = L.map dTx → flat D = D → ∃ b o c, u = .slice (some ⟨b, o, none⟩) L.length c ∧ b < w.heap.size ∧ L.length ≤ c ∧ ∀ (j : Nat) x, (L.map bs)[j]? = some x → w.cell? ⟨b, o + j, none⟩ = some (.string x) := by
        intro D r hD hf
        cases r with
        | listNil ao cap =>
          have : L = [] := by
            cases L with
            | nil => rfl
            | cons q l => simp at hD
          exact absurd this hne
        | list _ b off cap esz u q1 q2 q3 q4 q5 q6 =>
          refine ⟨b, off, cap, by rw [hD]; simp, q2, by rw [hD] at q3; simpa using q3, fun j x hx => ?_⟩
          rw [List.getElem?_map, Option.map_eq_some_iff] at hx
          obtain ⟨T, hT, rfl⟩ := hx
          have e0 : (flat D)[j]? = some (dTx T) := by rw [hf, hD, List.getElem?_map, hT]; rfl
          have e1 := q5 j _ e0
          have e2 := rep_str (q6 j _ e0)
          rw [e2] at e1
          exact e1
      exact key _ r0 rfl hf
    obtain ⟨b, o, c, rfl, hb, hc, hcells⟩ := main
    have e : (L.map bs).map (fun x => x.data.toList) = L := by rw [List.map_map]; exact List.map_id L
    have hJ := Tryd.strings_Join b o c (L.map bs) (bs sep) w hcells hb (by simpa using hN) (by simpa using hc) (by rw [e]; exact hlen)
    rw [e, List.length_map] at hJ
    refine hJ.mono fun e' w' ⟨he, hw⟩ => ?_
    subst he
    exact ⟨_, rfl, hw, res_dv (.str _)⟩
end Go.Ab.Tryd
