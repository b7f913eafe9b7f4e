/- BogT, Ab25, Ab41, BogArg, BogKit, BogIt, MossL0. -/
import Derived.Test.YtjcecljhjailiaaGreatDoorBogG15
import Derived.Test.YtjcecljhjailiaaGreatDoorBogG15
import Derived.Test.YtjcecljhjailiaaGreatDoorBogG08
import Derived.WalkKit
import Derived.ProofKit
import Derived.OpenShut
import Derived.JoinedCond
import Derived.Carry
import Derived.Deep.Strs
import Derived.Test.YtjcecljhjailiaaGreatDoorTie
import Derived.LaidMore
import Derived.LaidHandle
import Derived.Lib.LaidTab
import Derived.Stop.Joined
import Derived.Stop.LaidErr
import Derived.Lay
import Derived.Shelf.Vars
import Derived.Handed
import Derived.Test.YtjcecljhjailiaaGreatDoorBogG14
import Derived.Test.YtjcecljhjailiaaGreatDoorRows
import Derived.JoinedOf
import Derived.SevenTiedAt
import Derived.Test.YtjcecljhjailiaaGreatDoorBogG14
import Derived.RangeFuncBox
import Derived.RangeFuncLeaves
import Derived.Shelf.Abstract
import Derived.Shelf.RegionOpen
import Derived.OwnWalkIn
import Derived.TacticsInMore
import Derived.LoopNIn
import Derived.LoopIn
import Derived.Test.YtjcecljhjailiaaGreatDoorProg
import Derived.Test.YtjcecljhjailiaaGreatDoorBogG14
set_option linter.all false
namespace Go.Ab.Tryz
open Go Go.Ab Go.Proofs Go.RowKit Go.Ab.Bog
abbrev txs (L : List Tx) : DV := .list (L.map dTx)
abbrev rX (L : List Tx) : R1 := .row 1 9 L.length (L.map dTx)
abbrev rowX (L : List Tx) : Blk := ⟨L.map fun T => .dv (dTx T), 1, 9, 0, true⟩
theorem dTx_inj {a b : Tx} : dTx a = dTx b ↔ a = b := ⟨fun h => by injection h with h; exact bs_inj.1 h, fun h => by rw [h]⟩
theorem svLes_txs {τ : Nat → Option Nat} {M M' : Nat → Nat × Option Blk} : ∀ {L L' : List Tx}, svLes τ M M' (L.map fun T => .dv (dTx T)) (L'.map fun T => .dv (dTx T)) ↔ L = L'
  | [], [] => by simp [svLes]
  | [], _ :: _ => by simp [svLes]
  | _ :: _, [] => by simp [svLes]
  | a :: L, b :: L' => by
    simp only [List.map_cons, svLes, svLe, List.cons.injEq]
    rw [svLes_txs (L := L) (L' := L'), dTx_inj]
theorem tx_snoc {L : List Tx} {v : Tx} : (L.map fun T => SV.dv (dTx T)) ++ [SV.dv (dTx v)] = (L ++ [v]).map fun T => .dv (dTx T) := by simp
theorem tx_app {L L' : List Tx} : (L.map fun T => SV.dv (dTx T)) ++ (L'.map fun T => SV.dv (dTx T)) = (L ++ L').map fun T => .dv (dTx T) := by simp
theorem src_txs {ob : Option Blk} {L : List Tx} : srcSV 1 (.dv (.list (L.map dTx)), ob) = some (L.length, L.map fun T => .dv (dTx T)) := src_map (M := fun _ => (0, none)) (fun _ => rfl) (fun _ => rfl)
section
variable {l : List (Nat × SV)} {m : List (Nat × Nat × Option Blk)} {d g : Nat} {L : List Tx}
theorem rowX_eq : (⟨(L.map dTx).map .dv, 1, 9, 0, true⟩ : Blk) = rowX L := by simp
theorem res_rX1 (hg : (mkM m d).1 = g) : (resEff d ⟨lk l, mkM m⟩ (.one (rX L))).app ⟨lk l, mkM m⟩ = ⟨lk ((d, .sl d (g + 1) 0 L.length) :: l), mkM ((d, g + 1, some (rowX L)) :: m)⟩ := by
  rw [res_row hg, rowX_eq]
theorem res_rX2 {x : DV} (hg : (mkM m d).1 = g) : (resEff d ⟨lk l, mkM m⟩ (.many [rX L, .dv x])).app ⟨lk l, mkM m⟩ = ⟨lk ((d, .tup [.sl d (g + 1) 0 L.length, .dv x]) :: l), mkM ((d, g + 1, some (rowX L)) :: m)⟩ := by
  rw [res_rowdv hg, rowX_eq]
end
theorem retOk_rX {okd : DV → Prop} {M : Nat → Nat × Option Blk} {t g n : Nat} {L : List Tx} (hM : M t = (g, some (rowX L))) (hl : n = L.length) : RetOk okd M (.sl t g 0 n) (rX L) := by
  subst hl
  refine .inr ⟨t, g, rfl, ?_, by simp, fun c hc => ?_⟩
  · rw [hM, List.map_map]; rfl
  · obtain ⟨q, _, rfl⟩ := List.mem_map.1 hc; exact .str _
theorem rX_ {okd : DV → Prop} {M : Nat → Nat × Option Blk} {t g n : Nat} {L L' : List Tx} (h : L = L' := by (first | rfl | (simp_all; done))) (hM : M t = (g, some (rowX L)) := by (simp only [mkM, reduceIte, Nat.reduceEqDiff] <;> rfl)) (hl : n = L.length := by (first | rfl | (simp; done) | (simp; omega))) : RetOk okd M (.sl t g 0 n) (rX L') := by subst h; exact retOk_rX hM hl
theorem data_txs {ok : Nat → Prop} {okd : DV → Prop} {M : Nat → Nat × Option Blk} {t g n : Nat} {L : List Tx} (hM : M t = (g, some (rowX L))) (hst : ok 0) (hl : L.length = n) (hd : ∀ T, okd (dTx T)) : Data ok okd M (.sl t g 0 n) (txs L) := by
  have hf : flat (L.map dTx) = L.map dTx := flat_one fun _ => rfl
  refine data_row hM hst (by simpa using hl) (fun d hd' => ?_) ?_ fun c hc' => ?_
  · obtain ⟨q, _, rfl⟩ := List.mem_map.1 hd'; rfl
  · rw [hf]; simp
  · rw [hf] at hc'; obtain ⟨q, _, rfl⟩ := List.mem_map.1 hc'; exact hd q
end Go.Ab.Tryz
set_option linter.unusedVariables false
namespace Go.Ab
open Go.ChangeShapes Go.WideShapes Go.ChangeAt Go.RowKit
section
variable {H : Type} {enc : TypeId × Value → H} {P : Program} {w : World}
theorem trodAll_stays (hl : laidOutB P = true) {W W' : World} {sp' : Nat → Bool} : ∀ {ts : List TypeId} {vs : List Value} {ds : List (DataW H)} {ps : List MemPlace}, (∀ t ∈ ts, P.readableRec t = true ∧ t < P.types.size) →
    DataW.TrodAll enc P W 0 (fun _ => true) true ts vs ds ps → (∀ p ∈ ps, W.sameAt W' p) → (∀ p ∈ ps, sp' p.block = true) → DataW.TrodAll enc P W' 0 sp' true ts vs ds ps
  | [], _, _, _, _, h, _, _ => by obtain ⟨rfl, rfl, rfl⟩ := trodAll_nil h; exact trodAll_mk0
  | t :: ts, _, _, _, hr, h, hsame, hs => by
    obtain ⟨v, vs', d, ds', p, q, rfl, rfl, rfl, h0, r0⟩ := trodAll_cons h
    obtain ⟨h1, h2⟩ := hr t (by simp)
    exact trodAll_cons_mk (WideElems.Trod_stays hl h1 h2 h0 (fun x hx => hsame x (List.mem_append_left _ hx)) fun x hx => hs x (List.mem_append_left _ hx))
      (trodAll_stays hl (fun t ht => hr t (List.mem_cons_of_mem _ ht)) r0 (fun x hx => hsame x (List.mem_append_right _ hx)) fun x hx => hs x (List.mem_append_right _ hx))
theorem law_post {f : Func} {s : ChangeSpec} {apart fresh handsOn again : Bool} {W W' : World} {args : Array Value} {ds gs : List (DataW H)} {before : List MemPlace} {tb : TypeId}
    (hl : laidOutB P = true) (hr : ∀ t ∈ f.params.toList, P.readableRec t = true ∧ t < P.types.size) (hrt : f.resultTypes = #[tb]) (hb : P.underlying tb = some .bool) (hvars0 : s.vars = [])
    (hW : DataW.Whole enc P f.params.toList s.vars apart W args.toList ds gs before) (hres : (s.fn H (ds ++ gs)).results = [.lit (.bool true)]) (hargs : (s.fn H (ds ++ gs)).args = ds) (hvs : (s.fn H (ds ++ gs)).vars = [])
    (hbel : Below W.heap.size W W') : s.post enc P f apart fresh handsOn again W args (.bool true) W' := by
  have hW' := hW
  obtain ⟨p, q, hA, hV, rfl, hfz, hnd⟩ := hW
  rw [hvars0] at hV
  obtain ⟨rfl, rfl⟩ := trodVars_none hV
  rw [List.append_nil] at hW' hfz hnd hres hargs hvs
  have hlt : ∀ x ∈ p, x.block < W.heap.size := fun x hx => by simpa using hW'.lt x hx
  have hargs' : ∀ sp : Nat → Bool, (∀ x ∈ p, sp x.block = true) → DataW.TrodAll enc P W' 0 sp true f.params.toList args.toList ds p := fun sp hsp =>
    trodAll_stays hl hr hA (fun x hx => hbel.same (hlt x hx)) hsp
  have hres' : ∀ (b : Nat) (sp : Nat → Bool) (hd : Bool), DataW.TrodAll enc P W' b sp hd f.resultTypes.toList ((Value.bool true).resultList f.resultTypes.size) [.lit (.bool true)] [] := fun b sp hd => by
    rw [hrt]
    exact trodAll_cons_mk (shut_bool hb _) trodAll_mk0
  have hvars' : ∀ sp : Nat → Bool, DataW.TrodVars enc P W' sp s.vars (s.fn H ds).vars [] := fun sp => by rw [hvars0, hvs]; rfl
  refine ⟨ds, [], p, [], p, [], hW', by rw [List.append_nil, hres]; exact hres' _ _ _, ?_, ?_, World.keptBut_mono (fun x hx => ⟨hx, .inr (by simpa using hx)⟩) (hbel.frame _), fun _ => ?_⟩
  · rw [List.append_nil, hargs]; exact hargs' _ fun x hx => by simpa using hlt x hx
  · rw [List.append_nil]; exact hvars' _
  · refine ⟨ok_one hrt rfl (okWide_bool_mk hb _), _, _, ([] ++ p) ++ [], ⟨[] ++ p, [], trodAll_append (hargs' _ (fun _ _ => rfl)) (hres' _ _ _), hvars' _, rfl, ?_, ?_⟩, ?_⟩
    · intro b off hp
      have hp' : MemPlace.cell b off ∈ p := by simpa using hp
      rw [hbel.frozen (p := ⟨b, off, none⟩) (hlt _ hp')]
      exact hfz b off hp'
    · intro ha
      simpa using hnd ha
    · intro x hx _
      simpa using hx
end
def Opens {α H : Type} (enc : TypeId × Value → H) (P : Program) (W : World) (t : TypeId) (F : α → DV) : Prop :=
  ∀ (fuel : Nat) (cs : List Value) (x : DataW H × List MemPlace), DataW.trod enc P W 0 (fun _ => true) true fuel t cs = some x → ∃ a : α, cs.length = (F a).cells.length ∧ ∀ (j : Nat) c, (F a).cells[j]? = some c → ∃ u, cs[j]? = some u ∧ RepD W (fun _ => False) c u
section
variable {α β γ H : Type} {enc : TypeId × Value → H} {P : Program} {W : World} {t e : TypeId} {F : α → DV} {G : β → DV}
theorem opens_int {k : IntKind} (ht : P.underlying t = some (.int k)) : Opens enc P W t (fun n : Int => DV.int k n) := by
  intro fuel cs x h
  obtain ⟨n, rfl, _, _⟩ := DataW.trod_int ht h
  refine ⟨n, rfl, fun j c hj => ?_⟩
  cases j with
  | zero => simp only [DV.cells, List.getElem?_cons_zero, Option.some.injEq] at hj; subst hj; exact ⟨_, rfl, .int k n⟩
  | succ j => simp [DV.cells] at hj
theorem opens_str (ht : P.underlying t = some .string) : Opens enc P W t (fun s : ByteArray => DV.str s) := by
  intro fuel cs x h
  obtain ⟨s, rfl, _, _⟩ := DataW.trod_string ht h
  refine ⟨s, rfl, fun j c hj => ?_⟩
  cases j with
  | zero => simp only [DV.cells, List.getElem?_cons_zero, Option.some.injEq] at hj; subst hj; exact ⟨_, rfl, .str s⟩
  | succ j => simp [DV.cells] at hj
theorem addr_add_add (a : Addr) (m n : Nat) : (a.add m).add n = a.add (m + n) := by
  obtain ⟨b, o, s⟩ := a
  unfold Addr.add
  by_cases hm : m = 0
  · subst hm; simp
  · by_cases hn : n = 0
    · subst hn; simp [hm]
    · simp [hm, hn, Nat.add_assoc]
theorem list_of {Q : Nat → α → Prop} : ∀ n : Nat, (∀ i, i < n → ∃ a, Q i a) → ∃ l : List α, l.length = n ∧ ∀ i a, l[i]? = some a → Q i a
  | 0, _ => ⟨[], rfl, fun i a h => by simp at h⟩
  | n + 1, h => by
    obtain ⟨l, h1, h2⟩ := list_of n fun i hi => h i (by omega)
    obtain ⟨a, ha⟩ := h n (by omega)
    refine ⟨l ++ [a], by simp [h1], fun i b hb => ?_⟩
    rcases Nat.lt_or_ge i l.length with hi | hi
    · rw [List.getElem?_append_left hi] at hb; exact h2 i b hb
    · rw [List.getElem?_append_right hi] at hb
      have : i - l.length = 0 := by have := (List.getElem?_eq_some_iff.1 hb).1; simp at this; omega
      rw [this] at hb
      simp only [List.getElem?_cons_zero, Option.some.injEq] at hb
      subst hb
      have : i = n := by omega
      subst this
      exact ha
theorem opens_list {sz : Nat} (ht : P.underlying t = some (.slice e)) (hc : P.cellsOf e = sz) (hpos : 0 < sz) (hF : ∀ a, (F a).cells.length = sz) (h0 : Opens enc P W e F) : Opens enc P W t (fun L : List α => .list (L.map F)) := by
  intro fuel cs x h
  rcases DataW.trod_slice ht h with ⟨rfl, _⟩ | ⟨a, len, cap, elems, rest, n, _, rfl, _, _, hl, _, hlen, hel, _, _⟩
  · refine ⟨[], rfl, fun j c hj => ?_⟩
    cases j with
    | zero => simp only [List.map_nil, DV.cells, List.getElem?_cons_zero, Option.some.injEq] at hj; subst hj; exact ⟨_, rfl, .listNil _ _⟩
    | succ j => simp [DV.cells] at hj
  · have each : ∀ i, i < len → ∃ q : α, ∀ (j : Nat) c, (F q).cells[j]? = some c → ∃ u, W.cell? (a.add (i * sz + j)) = some u ∧ RepD W (fun _ => False) c u := fun i hi => by
      have h1 := hel i hi
      have h2 : elems[i]? = some elems[i] := List.getElem?_eq_getElem (by omega)
      rw [h2, hc, Option.bind_eq_some_iff] at h1
      obtain ⟨cs, c1, c2⟩ := h1
      obtain ⟨_, hlc, hcell⟩ := World.cells?_some c1
      obtain ⟨q, q1, q2⟩ := h0 n cs _ c2
      refine ⟨q, fun j c hj => ?_⟩
      obtain ⟨u, u1, u2⟩ := q2 j c hj
      refine ⟨u, ?_, u2⟩
      have hj2 : j < sz := by have := (List.getElem?_eq_some_iff.1 u1).1; omega
      have := hcell j hj2
      rw [u1] at this
      rw [addr_add_add] at this
      exact this
    obtain ⟨L, hL, hLQ⟩ := list_of len each
    refine ⟨L, rfl, fun j c hj => ?_⟩
    cases j with
    | succ j => simp [DV.cells] at hj
    | zero =>
      simp only [DV.cells, List.getElem?_cons_zero, Option.some.injEq] at hj
      subst hj
      refine ⟨_, rfl, ?_⟩
      have hsz : ∀ d ∈ L.map F, d.cells.length = sz := fun d hd => by obtain ⟨q, _, rfl⟩ := List.mem_map.1 hd; exact hF q
      have hcells : ∀ j c, (flat (L.map F))[j]? = some c → ∃ u, W.cell? (a.add j) = some u ∧ RepD W (fun _ => False) c u := fun j c hj => by
        have hjl := (List.getElem?_eq_some_iff.1 hj).1
        rw [flat_len _ sz hsz, List.length_map] at hjl
        have hi : j / sz < L.length := by rw [Nat.div_lt_iff_lt_mul hpos]; exact hjl
        have hj' : j = j / sz * sz + j % sz := by rw [Nat.mul_comm]; exact (Nat.div_add_mod j sz).symm
        have hfg := flat_get (L.map F) sz hsz (j / sz) (by simpa using hi) (j % sz) (Nat.mod_lt _ hpos)
        rw [← hj', hj, List.getElem_map] at hfg
        obtain ⟨u, u1, u2⟩ := hLQ (j / sz) _ (List.getElem?_eq_getElem hi) (j % sz) c hfg.symm
        rw [← hj'] at u1
        exact ⟨u, u1, u2⟩
      cases L with
      | nil =>
        have : len = 0 := by simpa using hL.symm
        subst this
        exact .listNil _ _
      | cons q L =>
        have hfl : 0 < (flat ((q :: L).map F)).length := by
          rw [flat_len _ sz hsz]
          simp only [List.length_map, List.length_cons]
          exact Nat.mul_pos (Nat.succ_pos _) hpos
        obtain ⟨u0, hu0, _⟩ := hcells 0 _ (List.getElem?_eq_getElem hfl)
        obtain ⟨b, o, spot⟩ := a
        have hspot : spot = none := by simpa [Addr.add] using World.cell?_spot hu0
        subst hspot
        have hb : b < W.heap.size := by
          rw [add_plain] at hu0
          unfold World.cell? at hu0
          cases hh : W.heap[b]? with
          | none => rw [hh] at hu0; simp at hu0
          | some ob => exact (Array.getElem?_eq_some_iff.1 hh).1
        have hlen2 : len = ((q :: L).map F).length := by rw [List.length_map]; exact hL.symm
        rw [hlen2]
        refine .list _ b o cap sz (fun j => (W.cell? ⟨b, o + j, none⟩).getD undef) (fun h => h) hb (by omega) hsz (fun j c hj => ?_) fun j c hj => ?_
        · obtain ⟨u, u1, _⟩ := hcells j c hj
          rw [add_plain] at u1
          rw [u1]; rfl
        · obtain ⟨u, u1, u2⟩ := hcells j c hj
          rw [add_plain] at u1
          rw [u1]; exact u2
theorem Opens.conv (h : Opens enc P W t F) (hc : ∀ a, ∃ b, G b = F a) : Opens enc P W t G := fun fuel cs x hx => by
  obtain ⟨a, h1, h2⟩ := h fuel cs x hx
  obtain ⟨b, hb⟩ := hc a
  exact ⟨b, by rw [hb]; exact h1, by rw [hb]; exact h2⟩
theorem arg_one (hone : ∀ a, (F a).cells = [F a]) (h : Opens enc P W t F) {v : Value} (hv : v.cells = #[v]) {d : DataW H} {ps : List MemPlace} (hd : DataW.Trod enc P W 0 (fun _ => true) true t v d ps) : ∃ a, RepD W (fun _ => False) (F a) v := by
  obtain ⟨fuel, hf⟩ := hd
  rw [hv] at hf
  obtain ⟨a, _, h2⟩ := h fuel _ _ hf
  obtain ⟨u, u1, u2⟩ := h2 0 (F a) (by rw [hone]; rfl)
  simp only [List.getElem?_cons_zero, Option.some.injEq] at u1
  subst u1
  exact ⟨a, u2⟩
end
end Go.Ab
set_option linter.all false
namespace Go.Ab
open Go.ChangeShapes Go.WideShapes Go.ChangeAt Go.RowKit
variable {H : Type} {enc : TypeId × Value → H} {P : Program} {W : World} {t : TypeId} {α β γ : Type} {F : α → DV} {G : β → DV} {E : γ → DV}
end Go.Ab
set_option linter.all false
set_option maxRecDepth 100000
namespace Go.Proofs.YtjcecljhjailiaaGreatDoor
open Go.ChangeShapes Go.WideShapes Go.ChangeAt Go.RowKit Go.Ab Go.Ab.Tryz
theorem own : ownKnob Tryz.prog.godebug = none := by kernel_rfl
theorem laid : laidOutB Tryz.prog = true := by kernel_rfl
abbrev laid8 : List (String × DataW Unit) := [("math/bits.deBruijn32tab", Rows.laid_math_bits_deBruijn32tab), ("math/bits.deBruijn64tab", Rows.laid_math_bits_deBruijn64tab), ("internal/strconv.uint64pow10", Rows.laid_internal_strconv_uint64pow10), ("unicode/utf8.acceptRanges", Rows.laid_unicode_utf8_acceptRanges), ("errors.errorType", Rows.laid_errors_errorType), ("strconv.ErrRange", Rows.laid_strconv_ErrRange), ("strconv.ErrSyntax", Rows.laid_strconv_ErrSyntax), ("unicode/utf8.first", Rows.laid_unicode_utf8_first)]
abbrev laidD : List (String × DataW Unit) := [("math/bits.deBruijn32tab", Rows.laid_math_bits_deBruijn32tab), ("math/bits.deBruijn64tab", Rows.laid_math_bits_deBruijn64tab), ("internal/strconv.uint64pow10", Rows.laid_internal_strconv_uint64pow10), ("unicode/utf8.acceptRanges", Rows.laid_unicode_utf8_acceptRanges), ("strconv.ErrRange", Rows.laid_strconv_ErrRange), ("strconv.ErrSyntax", Rows.laid_strconv_ErrSyntax), ("unicode/utf8.first", Rows.laid_unicode_utf8_first)]
theorem gTyp : Tryz.prog.globalNamed "errors.errorType" = some 0 := by kernel_rfl
theorem gTab : Tryz.prog.globalNamed "internal/strconv.uint64pow10" = some 2 := by kernel_rfl
theorem gSyn : Tryz.prog.globalNamed "strconv.ErrSyntax" = some 3 := by kernel_rfl
theorem gRan : Tryz.prog.globalNamed "strconv.ErrRange" = some 4 := by kernel_rfl
theorem tTab : (Tryz.prog.globals[2]?).map (·.type) = some 256 ∧ Tryz.prog.underlying 256 = some (.array 20 232) ∧ Tryz.prog.underlying 232 = some (.int .u64) ∧ Tryz.prog.cellsOf 232 = 1 ∧ Tryz.prog.cellsOf 256 = 20 := ⟨by kernel_rfl, by kernel_rfl, by kernel_rfl, by kernel_rfl, by kernel_rfl⟩
theorem tErr : (Tryz.prog.globals[3]?).map (·.type) = some 103 ∧ (Tryz.prog.globals[4]?).map (·.type) = some 103 ∧ ∃ ms, Tryz.prog.underlying 103 = some (.interface ms) := by
  refine ⟨by kernel_rfl, by kernel_rfl, ?_⟩
  have h : isIfaceP Tryz.prog 103 = true := by kernel_rfl
  unfold isIfaceP at h
  split at h
  · exact ⟨_, by assumption⟩
  · cases h
theorem tRow : (Tryz.prog.cutTypes.find? (·.1 == "internal/reflectlite.rtype")).map (·.2) = some 210 := by kernel_rfl
theorem oneRow : ((List.range 306).filter fun t => Tryz.prog.rowNamed t [101, 114, 114, 111, 114]) = [103] := by kernel_rfl
theorem tSize : Tryz.prog.types.size = 306 := by kernel_rfl
noncomputable def w00 (os : Os) : World :=
  let w0 := World.holding Tryz.prog os ⟨#[], #[], []⟩
  { w0 with heap := w0.heap.modify 0 fun
      | .cells _ t frozen => .cells #[.iface 210 (.agg #[.pointer (some ⟨9, 103, none⟩)])] t frozen
      | o => o }
noncomputable def wLaid (os : Os) : World := (w00 os).layVars Tryz.prog laidD
theorem wLaid_os (os : Os) : (wLaid os).os = os := World.layVars_os _ _ _
theorem laid_metD (os : Os) : laidMet Tryz.prog laidD (wLaid os) := by
  have e1 : (laidD.filter fun x => (laidD.map (·.1)).contains x.1) = laidD := List.filter_eq_self.2 fun x hx => List.contains_iff_mem.2 (List.mem_map.2 ⟨x, hx, rfl⟩)
  have e2 : (laidD.filter fun x => !(laidD.map (·.1)).contains x.1) = [] := List.filter_eq_nil_iff.2 fun x hx => by rw [List.contains_iff_mem.2 (List.mem_map.2 ⟨x, hx, rfl⟩)]; simp
  exact laidMet_layVars (w0 := w00 os) (laidD.map (·.1)) [] (by rw [e1]; rfl) (by rw [e1]; kernel_rfl) (by rw [e1]; kernel_rfl) (by rw [e2]; exact LaidIn.none)
theorem laid_met (os : Os) (args : Array Value) : laidMetH Tryz.prog laid8 ((wLaid os).forCall (fun _ _ => 0) ⟨#[], args, []⟩).memory :=
  laidMetH_of_parts ((laid_metD os).of_heap (by simp [World.memory, World.forCall, Input.heap])) (by kernel_rfl)
theorem glob_lt {g : Nat} (h : decide (g < Tryz.prog.globals.size) = true) : g < Tryz.prog.globals.size := of_decide_eq_true h
theorem glob_cells {W : World} (hs : W.ShapedOpen Tryz.prog) {g n : Nat} (hg : g < Tryz.prog.globals.size) (h0 : ((((begin Tryz.prog (fun _ _ => 0) default).world.heap[g]?).bind Obj.row?).map (·.1.size)) = some n) : ∃ cur t, W.heap[g]? = some (.cells cur t (0, 0)) ∧ cur.size = n := by
  obtain ⟨⟨zero, t⟩, h, hz⟩ := Option.map_eq_some_iff.1 h0
  obtain ⟨cs, h1, h2, _⟩ := hs.1 g zero t hg h
  exact ⟨cs, t, h1, by rw [h2]; exact hz⟩
theorem glob_iface {W : World} {n nm : String} {d : DataW Unit} {r : List (String × DataW Unit)} {g : Nat} (h : laidMet Tryz.prog ((n, .iface nm d) :: r) W) (hg : Tryz.prog.globalNamed n = some g) (ht : (Tryz.prog.globals[g]?).map (·.type) = some 103) : ∃ v, W.cell? ⟨g, 0, none⟩ = some v ∧ (v = .nilIface ∨ ∃ t p, v = .iface t p) := by
  obtain ⟨ps, ⟨g', t', cs, fuel, p, q, hg', ht', hvar, hd, _, _⟩, _⟩ := h
  obtain rfl := Option.some.inj (hg.symm.trans hg')
  obtain rfl := Option.some.inj (ht.symm.trans ht')
  obtain ⟨ms, hi⟩ := tErr.2.2
  obtain ⟨_, u, v, hcs, _⟩ := iface_of_trod hi hd
  have h0 := World.var?_cell hg hvar 0
  refine ⟨.iface u v, ?_, .inr ⟨u, v, rfl⟩⟩
  have h1 : cs[0]? = some (.iface u v) := by
    rw [← Array.getElem?_toList, hcs]; rfl
  rw [h0]; exact h1
theorem glob_type {W : World} (h : handlesMet Tryz.prog [("errors.errorType", Rows.laid_errors_errorType)] W) : W.cell? ⟨0, 0, none⟩ = some (.iface 210 (.agg #[.pointer (some ⟨9, 103, none⟩)])) := by
  obtain ⟨name, u, ty, e1, e2, e3, e4, e5⟩ := h _ (List.mem_singleton.2 rfl)
  have en : name = [101, 114, 114, 111, 114] := (Option.some.inj e1).symm
  subst en
  obtain rfl := Option.some.inj (tRow.symm.trans e2)
  have hm : ty ∈ (List.range 306).filter fun t => Tryz.prog.rowNamed t [101, 114, 114, 111, 114] := List.mem_filter.2 ⟨List.mem_range.2 (by rw [← tSize]; exact e3), e4⟩
  rw [oneRow] at hm
  obtain rfl := List.mem_singleton.1 hm
  have hh : typeHandle Tryz.prog 103 = .pointer (some ⟨9, 103, none⟩) := by kernel_rfl
  rw [hh] at e5
  simpa using World.var?_cell gTyp e5 0
theorem of_laid {W : World} (h : laidMetH Tryz.prog laid8 W) (hs : W.ShapedOpen Tryz.prog) : Laid W := by
  have h' : laidMet Tryz.prog laidD W ∧ handlesMet Tryz.prog [("errors.errorType", Rows.laid_errors_errorType)] W := h
  obtain ⟨h, hH⟩ := h'
  obtain ⟨h1, h2, h3, h4, h5⟩ := tTab
  have hT : Lib.TabIs Tryz.prog W "internal/strconv.uint64pow10" .u64 pow10I := Lib.tabIs_of_head gTab h1 h2 h3 h4 h5 h.tail.tail
  have hR := glob_iface h.tail.tail.tail.tail gRan tErr.2.1
  have hS := glob_iface h.tail.tail.tail.tail.tail gSyn tErr.1
  obtain ⟨m, hm⟩ := cell_of_shapedOpen_int (g := 1) (t := 3) (zero := #[.int .i64 0]) (k := .i64) hs (glob_lt (by kernel_rfl)) (by kernel_rfl) (by kernel_rfl) (by kernel_rfl) (by kernel_rfl) Tryz.underlying3
  intro p hp
  simp only [laidTab, List.mem_cons, List.not_mem_nil, or_false] at hp
  rcases hp with rfl | rfl | rfl | rfl | rfl
  · refine ⟨glob_cells hs (glob_lt (by kernel_rfl)) (by kernel_rfl), fun j C hj => ?_⟩
    match j, hj with
    | 0, hj => simp only [List.getElem?_cons_zero, Option.some.injEq] at hj; subst hj; exact ⟨_, glob_type hH, rfl⟩
  · refine ⟨glob_cells hs (glob_lt (by kernel_rfl)) (by kernel_rfl), fun j C hj => ?_⟩
    match j, hj with
    | 0, hj => simp only [List.getElem?_cons_zero, Option.some.injEq] at hj; subst hj; exact ⟨_, hm, m, rfl⟩
  · refine ⟨glob_cells hs (glob_lt (by kernel_rfl)) (by kernel_rfl), fun j C hj => ?_⟩
    have hlt : j < pow10I.length := by simpa using (List.getElem?_eq_some_iff.1 hj).1
    have := hT.cell gTab j hlt
    rw [this]
    simp only [List.getElem?_map, Option.map_eq_some_iff] at hj
    obtain ⟨z, hz, rfl⟩ := hj
    exact ⟨_, rfl, by simp [List.getD, hz]⟩
  · refine ⟨glob_cells hs (glob_lt (by kernel_rfl)) (by kernel_rfl), fun j C hj => ?_⟩
    match j, hj with
    | 0, hj => simp only [List.getElem?_cons_zero, Option.some.injEq] at hj; subst hj; exact hS
  · refine ⟨glob_cells hs (glob_lt (by kernel_rfl)) (by kernel_rfl), fun j C hj => ?_⟩
    match j, hj with
    | 0, hj => simp only [List.getElem?_cons_zero, Option.some.injEq] at hj; subst hj; exact hR
theorem returns_and_shaped {H : Type} {enc : TypeId × Value → H} {a : Assume} {C : Checked} {os : Os} {f : FuncId} {fn : Func} {s : ChangeSpec} {conds : List PathCond} {apart fresh handsOn again : Bool} {X : World → Array Value → Prop}
    (hX : ∀ (w w' : World) (args : Array Value), w.heap = w'.heap → X w args → X w' args)
    (own : ownKnob C.prog.godebug = none) (started : os.Started) (noInit : C.prog.inits.idxOf? f = none) (hfn : C.prog.funcs[f]? = some fn)
    (witness : ∃ (w : World) (tape : Tape) (i : Input), w.os = os ∧ (w.forCall tape i).Shaped C.prog ∧ i.vars = [] ∧ Input.okWide C.prog (w.forCall tape i) .any w.heap.size f i ∧
      ((s.pre enc C.prog fn conds apart (w.forCall tape i).memory i.args ∧ X (w.forCall tape i).memory i.args) ∧ sizedMet enc C.prog fn (OpenSpec.ofChange s) apart (w.forCall tape i).memory i.args) ∧ a.holds C.prog (lone (Frame.enter C.prog f i.args .normal) [] (w.forCall tape i)))
    (contract : ∀ (W : World) (base : Nat) (args : Array Value) (ds gs : List (DataW H)) (before : List MemPlace),
      (∀ (j : Nat) t v, fn.params[j]? = some t → args[j]? = some v → Value.okWide C.prog W .any base t v) →
      DataW.Whole enc C.prog fn.params.toList s.vars apart W args.toList ds gs before → X W args → W.ShapedOpen C.prog →
      Calls C.prog f args W fun e W' => ∃ v, e = .returned v ∧ s.post enc C.prog fn apart fresh handsOn again W args v W') :
    ReturnsInHanded a C os f .any (fun w args => (s.pre enc C.prog fn conds apart w args ∧ X w args) ∧ sizedMet enc C.prog fn (OpenSpec.ofChange s) apart w args) (s.post enc C.prog fn apart fresh handsOn again) := by
  refine returnsInHanded_of_calls own started noInit witness ?_
  intro w tape i _ hsh _ hok hpre hholds
  obtain ⟨_, _, _, fn', hfn', _, _, _, _, hval⟩ := hok
  have e : fn' = fn := Option.some.inj (hfn'.symm.trans hfn)
  subst e
  obtain ⟨⟨⟨ds, gs, before, hw, hc⟩, hx⟩, hz⟩ := hpre
  have hw' := DataW.Whole.of_heap (w' := w.forCall tape i) (by rfl) hw
  refine (contract (w.forCall tape i) w.heap.size i.args ds gs before hval hw' (hX _ _ _ (by rfl) hx) hsh).mono fun e W' ⟨v, he, hp⟩ => ?_
  subst he
  exact ChangeSpec.post_blind hp
theorem arg_str {H : Type} {enc : TypeId × Value → H} {W : World} {base : Nat} {v : Value} {d : DataW H} {ps : List MemPlace} (hv : Value.okWide Tryz.prog W .any base 9 v) (hd : DataW.Trod enc Tryz.prog W 0 (fun _ => true) true 9 v d ps) : ∃ T : Tx, RepD W (fun _ => False) (dTx T) v := by
  obtain ⟨s, rfl⟩ := okWide_string Tryz.underlying9 hv
  obtain ⟨s', h⟩ := arg_one (F := fun s : ByteArray => DV.str s) (fun _ => rfl) (opens_str Tryz.underlying9) rfl hd
  exact ⟨s'.data.toList, by show RepD W (fun _ => False) (DV.str (bs _)) _; rw [bs_data]; exact h⟩
theorem arg_int {H : Type} {enc : TypeId × Value → H} {W : World} {base : Nat} {v : Value} {d : DataW H} {ps : List MemPlace} (hv : Value.okWide Tryz.prog W .any base 3 v) (hd : DataW.Trod enc Tryz.prog W 0 (fun _ => true) true 3 v d ps) : ∃ n, RepD W (fun _ => False) (i64 n) v := by
  obtain ⟨n, rfl, _⟩ := okWide_int Tryz.underlying3 hv
  exact arg_one (F := fun n : Int => i64 n) (fun _ => rfl) (opens_int Tryz.underlying3) rfl hd
theorem opens_txs {H : Type} (enc : TypeId × Value → H) (W : World) : Opens enc Tryz.prog W 30 txs :=
  opens_list (F := dTx) (sz := 1) Tryz.underlying30 (by kernel_rfl) (by decide) (fun _ => rfl) ((opens_str Tryz.underlying9).conv fun s => ⟨s.data.toList, by show DV.str (bs _) = _; rw [bs_data]⟩)
theorem list_cap {W : World} {base : Nat} {l : List DV} {v : Value} {t e : TypeId} (ht : Tryz.prog.underlying t = some (.slice e)) (h : RepD W (fun _ => False) (.list l) v) (hc : Cell.okWide Tryz.prog W .any base t v) : l.length ≤ 9223372036854775807 := by
  cases h with
  | listNil a cap => exact Nat.zero_le _
  | list _ b off cap esz u h1 h2 h3 h4 h5 h6 =>
    simp only [Cell.okWide, ht, Cell.ok] at hc
    have h7 : (cap : Int) ≤ 9223372036854775807 := hc.2.1
    omega
theorem arg_txs {H : Type} {enc : TypeId × Value → H} {W : World} {base : Nat} {v : Value} {d : DataW H} {ps : List MemPlace} (hv : Value.okWide Tryz.prog W .any base 30 v) (hd : DataW.Trod enc Tryz.prog W 0 (fun _ => true) true 30 v d ps) : ∃ L : List Tx, RepD W (fun _ => False) (txs L) v ∧ L.length ≤ 9223372036854775807 := by
  have hv2 := hv
  obtain ⟨a, len, cap, rfl⟩ := okWide_slice Tryz.underlying30 hv
  obtain ⟨L, h⟩ := arg_one (fun _ => rfl) (opens_txs enc W) rfl hd
  refine ⟨L, h, ?_⟩
  have hc : Cell.okWide Tryz.prog W .any base 30 (.slice a len cap) := by
    simpa only [Value.okWide, Tryz.underlying30] using hv2
  have := list_cap Tryz.underlying30 h hc
  simpa using this
end Go.Proofs.YtjcecljhjailiaaGreatDoor
set_option linter.all false
set_option maxRecDepth 100000
namespace Go.Proofs.YtjcecljhjailiaaGreatDoor
open Go Go.Proofs
theorem kp_laidOut : (laidOutB Tryz.prog) = true := by kernel_rfl
theorem kp_mapsRowed : (mapsRowed Tryz.prog) = true := by kernel_rfl
theorem kp_stops : ((Tryz.prog.stops == [])) = true := by kernel_rfl
theorem kp_stopKnobs : ((Tryz.prog.stopKnobs == [])) = true := by kernel_rfl
theorem kp_plainKeys : ((Rows.bogReadsRow.plainKeys == Tryz.prog.plainKeys)) = true := by kernel_rfl
theorem kp_stopsHeard : (Tryz.prog.stopsHeard) = true := by kernel_rfl
theorem kp_mayEnter : (Tryz.prog.mayEnter) = true := by kernel_rfl
theorem kp_lifted : ((Rows.bogReadsRow.lifted == Tryz.prog.liftsFinal)) = true := by kernel_rfl
theorem kp_make : ((Tryz.prog.make == some Rows.bogReadsRow.make)) = true := by kernel_rfl
theorem joined_of {P : Program} {f : FuncId} {fn : Func} {s : ChangeSpec} {c : OpenClaim}
    (h0 : (c.wf (OpenSpec.ofChange s)) = true)
    (h1 : (laidOutB P) = true)
    (h2 : (mapsRowed P) = true)
    (h3 : (fn.params.all (P.readableRec ·)) = true)
    (h4 : (namedTie P c.named s.vars) = true)
    (h5 : ((c.stops == [])) = true)
    (h6 : ((P.stops == [])) = true)
    (h7 : ((c.knobs == [])) = true)
    (h8 : ((P.stopKnobs == [])) = true)
    (h9 : ((c.inPlace == P.inPlace f)) = true)
    (h10 : ((c.unfollowed == P.unfollowed f)) = true)
    (h11 : ((c.recurses == P.recurses f)) = true)
    (h12 : ((c.named == P.varsNamed f)) = true)
    (h13 : ((c.maps == (fn.params.toList ++ s.plain.varTypes P).any (P.mapsRec ·))) = true)
    (h14 : ((c.ifaces == (fn.params.toList ++ s.plain.varTypes P).any (P.ifacesRec ·))) = true)
    (h15 : ((c.mapsOut == P.mapsAmong fn.resultTypes.toList)) = true)
    (h16 : ((c.loops == (fn.params.toList ++ s.plain.varTypes P).any (P.loopsFrom ·))) = true)
    (h17 : ((c.wideKeys == (fn.params.toList ++ s.plain.varTypes P ++ fn.resultTypes.toList).any (P.wideKeysFrom ·))) = true)
    (h18 : (s.vars.all (P.varReadable ·)) = true)
    (h19 : (fn.resultTypes.all (fun t => P.readableRec t && decide (t < P.types.size))) = true)
    (h20 : ((c.ifacesOut == fn.resultTypes.toList.any (P.ifacesRec ·))) = true)
    (h21 : ((c.loopsOut == fn.resultTypes.toList.any (P.loopsFrom ·))) = true)
    (h22 : ((c.plainKeys == P.plainKeys)) = true)
    (h23 : (c.shortTexts.isNone) = true)
    (h24 : (P.stopsHeard) = true)
    (h25 : (P.mayEnter) = true)
    (h26 : ((c.lifted == P.liftsFinal)) = true)
    (h27 : ((P.make == some c.make)) = true)
    (h28 : ((c.kinds == (if c.domain.isEmpty then [] else fn.params.toList.map fun t => match P.underlying t with | some (.int k) => some k | _ => none))) = true)
    (h29 : ((c.pinned == c.pinnedBy)) = true)
    (h30 : ((c.veiled == (fn.params.toList ++ s.plain.varTypes P ++ fn.resultTypes.toList).any (P.veiledRec ·))) = true)
    (h31 : (c.veiledFits P fn.params.toList (fn.params.toList ++ s.plain.varTypes P ++ fn.resultTypes.toList)) = true) :
    joinedFacts P f fn s c = true := by
  simp only [joinedFacts, Bool.and_eq_true]
  exact ⟨⟨⟨⟨⟨⟨⟨⟨⟨⟨⟨⟨⟨⟨⟨⟨⟨⟨⟨⟨⟨⟨⟨⟨⟨⟨⟨⟨⟨⟨⟨h0, h1⟩, h2⟩, h3⟩, h4⟩, h5⟩, h6⟩, h7⟩, h8⟩, h9⟩, h10⟩, h11⟩, h12⟩, h13⟩, h14⟩, h15⟩, h16⟩, h17⟩, h18⟩, h19⟩, h20⟩, h21⟩, h22⟩, h23⟩, h24⟩, h25⟩, h26⟩, h27⟩, h28⟩, h29⟩, h30⟩, h31⟩
theorem kp_main : Tryz.prog.mainIs = some (true, "3db829cce18005878e8754b8e59e180ceed115a91828322c6a281b16f2fc2ec3".toList) := by kernel_rfl
theorem kp_looks : true = Tryz.prog.looks [] := by kernel_rfl
end Go.Proofs.YtjcecljhjailiaaGreatDoor
set_option linter.all false
namespace Go.Proofs
open Go.RowKit Go.Shelf Go.Ab
attribute [local go_sem] Oper.semAt_some
theorem cptr3 {w : World} {X : Nat → Prop} {x y z : Int} {v : Value} (h : RepD w X (.cptr [.int .i64 x, .int .i64 y, .int .i64 z]) v) :
    ∃ b off, v = .pointer (some ⟨b, off, none⟩) ∧ w.cell? ⟨b, off, none⟩ = some (.int .i64 x) ∧ w.cell? ⟨b, off + 1, none⟩ = some (.int .i64 y) ∧ w.cell? ⟨b, off + 2, none⟩ = some (.int .i64 z) := by
  cases h with
  | cptr _ b off u h1 h2 h3 h4 =>
    refine ⟨b, off, rfl, ?_, ?_, ?_⟩
    · have := h4 0 _ rfl; have h5 := h3 0 _ rfl; generalize u 0 = q at this h5; cases this; simpa using h5
    · have := h4 1 _ rfl; have h5 := h3 1 _ rfl; generalize u 1 = q at this h5; cases this; simpa using h5
    · have := h4 2 _ rfl; have h5 := h3 2 _ rfl; generalize u 2 = q at this h5; cases this; simpa using h5
theorem wrap_small {q : Int} (h : -9223372036854775808 ≤ q ∧ q < 9223372036854775808) : IntKind.i64.wrap q = q := by
  simp only [IntKind.wrap, IntKind.bits, IntKind.signed]
  simp only [Bool.true_and, decide_eq_true_eq, ge_iff_le, Nat.reduceSub, Int.reducePow]
  split <;> omega
def sqArg (c : Nat) (k : Nat) : List DV := [.int .i64 k, .agg [.int .i64 ((k / c : Nat) : Int), .int .i64 ((k % c : Nat) : Int)]]
set_option maxRecDepth 100000 in
set_option maxHeartbeats 4000000 in
theorem Tryz.squares1_in (l b off : Nat) (r c N : Nat) (hN : r * c = N) (hr : 1 ≤ r ∧ r ≤ 6) (hc : 1 ≤ c ∧ c ≤ 6) (J : Nat → World → Prop) (hD : ∀ k W, J k W → J k W.drew)
    (hA : ∀ k W, J k W → W.cell? ⟨b, off, none⟩ = some (.int .i64 (r : Int)) ∧ W.cell? ⟨b, off + 1, none⟩ = some (.int .i64 (c : Int)))
    (hY : ∀ k W1, k < N → J k W1 → YieldAt Fence.wide 0 Tryz.prog l #[.int .i64 (k : Int), .agg #[.int .i64 ((k / c : Nat) : Int), .int .i64 ((k % c : Nat) : Int)]] W1 fun e W' => e = .returned (.bool true) ∧ J (k + 1) W')
    (W : World) (h0 : J 0 W) :
    CallsIn Fence.wide 0 Tryz.prog 231 #[.func (.yield l) #[] #[], .pointer (some ⟨b, off, none⟩)] W fun e W' => (∃ v, e = .returned v) ∧ J N W' := by
  have hmix : Tryz.prog.follows .mixedOrders = true := by kernel_rfl
  obtain ⟨hcr, hcc⟩ := hA 0 W h0
  have hrc : N ≤ 36 := hN ▸ Nat.le_trans (Nat.mul_le_mul hr.2 hc.2) (by decide)
  refine callsIn_of_wp Tryz.func231 rfl trivial ?_ rfl
  simp only [Tryz.ntmps231, List.size_toArray, List.length_cons, List.length_nil, Nat.reduceAdd, Nat.reduceSub, Array.replicate_succ, Array.replicate_zero, List.push_toArray, List.append_toArray, List.nil_append, List.cons_append]
  have hmul : (r : Int) * (c : Int) = (N : Int) := by rw [← hN, Int.natCast_mul]
  gi_wp2
  clear hmul
  gi_loopw [9] (fun i wr => ∃ k : Nat, k ≤ N ∧ i = .int .i64 (k : Int) ∧ J k wr)
    (fun i _ => N - (intOf i).toNat)
  case atStart => exact ⟨0, Nat.zero_le _, rfl, h0⟩
  case round =>
    obtain ⟨k, hk, rfl, hJs⟩ := hrel
    obtain ⟨hcr', hcc'⟩ := hA k wr hJs
    by_cases hlt : k < N
    · obtain ⟨fn, tmps, assign, body, hy, hR⟩ := hY k wr.drew hlt (hD k wr hJs)
      obtain ⟨q, hq⟩ : ∃ q : Int, ((k / c : Nat) : Int) = q := ⟨_, rfl⟩
      obtain ⟨p, hp⟩ : ∃ p : Int, ((k % c : Nat) : Int) = p := ⟨_, rfl⟩
      have hkb : k / c ≤ 36 := Nat.le_trans (Nat.div_le_self _ _) (by omega)
      have hpb : k % c ≤ 36 := Nat.le_trans (Nat.mod_le _ _) (by omega)
      have q1 : (k : Int) / (c : Int) = q := by rw [← hq]; simp
      have q2 : (k : Int).tdiv (c : Int) = q := by rw [← hq]; simp
      have p1 : (k : Int) % (c : Int) = p := by rw [← hp]; simp
      have p2 : (k : Int).tmod (c : Int) = p := by rw [← hp, Int.tmod_eq_emod_of_nonneg (by omega)]; simp
      have q3 : wrap64 q = q := by generalize k / c = z at *; subst hq; unfold wrap64; omega
      have q4 : IntKind.i64.wrap q = q := wrap_small (by generalize k / c = z at *; omega)
      have p3 : wrap64 p = p := by generalize k % c = z at *; subst hp; unfold wrap64; omega
      have p4 : IntKind.i64.wrap p = p := wrap_small (by generalize k % c = z at *; omega)
      rw [hq, hp] at hy
      clear hq hp hkb hpb
      have hdep : Fence.wide.depth = none := rfl
      have hc0 : ¬ (c : Int) = 0 := by omega
      gi_wp2
      gi_region_with_o (refine hR.mono ?_; rintro e W3 ⟨rfl, hJ3⟩)
      all_goals gi_wp2
      all_goals go_roundw
      all_goals first
        | exact ⟨k + 1, by omega, by simp, hJ3⟩
        | (simp [intOf]; omega)
    · obtain rfl : k = N := by omega
      gi_wp2
      go_end0
      exact ⟨⟨_, rfl⟩, hJs⟩
theorem Tryz.squares_seq (r c : Nat) (nd : Int) (hr : 1 ≤ r ∧ r ≤ 6) (hc : 1 ≤ c ∧ c ≤ 6) : ASeq Tryz.prog 231 [.cptr [.int .i64 (r : Int), .int .i64 (c : Int), .int .i64 nd]] ((List.range (r * c)).map (sqArg c)) := by
  refine ⟨enterP_of Tryz.func231 rfl (by kernel_rfl), fun x hx => ?_, fun l lb J W hJ hA hY h0 => ?_⟩
  · obtain ⟨k, _, rfl⟩ := List.mem_map.1 hx; rfl
  have hl : ∀ k W, J k W → ∃ v, lb = #[v] ∧ RepD W (fun _ => False) (.cptr [.int .i64 (r : Int), .int .i64 (c : Int), .int .i64 nd]) v := fun k W hk => by
    obtain ⟨h1, h2⟩ := hA k W hk
    have h3 := h2 0 _ rfl
    obtain ⟨v, rfl⟩ : ∃ v, lb = #[v] := by
      match lb, h1 with
      | ⟨[v]⟩, _ => exact ⟨v, rfl⟩
      | ⟨[]⟩, h => simp at h
      | ⟨_ :: _ :: _⟩, h => simp at h
    exact ⟨v, rfl, h3⟩
  obtain ⟨v, rfl, hv⟩ := hl 0 W h0
  obtain ⟨b, off, rfl, _⟩ := cptr3 hv
  have := Tryz.squares1_in l b off r c (r * c) rfl hr hc J (fun k W hk => hJ k W _ none hk ⟨rfl, rfl, rfl, Nat.le_refl _, fun _ _ _ => rfl⟩ (fun r e => by cases e))
    (fun k W hk => by
      obtain ⟨v', e, h⟩ := hl k W hk
      simp only [Array.mk.injEq, List.cons.injEq, and_true] at e
      subst e
      obtain ⟨b', off', e2, h1, h2, _⟩ := cptr3 h
      simp only [Value.pointer.injEq, Option.some.injEq, Addr.mk.injEq, and_true] at e2
      obtain ⟨rfl, rfl⟩ := e2
      exact ⟨h1, h2⟩)
    (fun k W1 hk hj => by
      have := hY k (sqArg c k) W1 (by simp [hk]) hj
      simpa [sqArg, DV.vals, DV.val] using this) W h0
  simpa using this
end Go.Proofs
set_option linter.all false
namespace Go.Ab.Moss
open Go.Ab
def pc (k x : Nat) : Nat := (List.range k).countP fun i => x.testBit i
abbrev popc (x : Nat) : Nat := pc 64 x
theorem pc_add (a b x : Nat) : pc (a + b) x = pc a x + pc b (x / 2 ^ a) := by
  unfold pc
  rw [List.range_add, List.countP_append, List.countP_map]
  congr 1
  apply List.countP_congr
  intro i _
  simp only [Function.comp, Nat.testBit_div_two_pow, Nat.add_comm]
theorem pc_mod (a x : Nat) : pc a (x % 2 ^ a) = pc a x := by
  unfold pc
  apply List.countP_congr
  intro i hi
  have := List.mem_range.1 hi
  simp [Nat.testBit_mod_two_pow, this]
def val : List Nat → Nat
  | [] => 0
  | b :: bs => 256 * val bs + b
theorem split_and {h l m k : Nat} (hl : l < 256) (hk : k < 256) : (256 * h + l) &&& (256 * m + k) = 256 * (h &&& m) + (l &&& k) := by
  apply Nat.eq_of_testBit_eq
  intro i
  have e : (256 : Nat) = 2 ^ 8 := rfl
  have h3 : l &&& k < 2 ^ 8 := Nat.lt_of_le_of_lt Nat.and_le_left hl
  rw [Nat.testBit_and, e, Nat.testBit_two_pow_mul_add _ hl, Nat.testBit_two_pow_mul_add _ hk, Nat.testBit_two_pow_mul_add _ h3]
  split <;> simp
def t1 (b : Nat) : Nat := (b / 2 &&& 85) + (b &&& 85)
def t2 (b : Nat) : Nat := (b / 4 &&& 51) + (b &&& 51)
def t3 (b : Nat) : Nat := b / 16 + b % 16
def S1 (m x : Nat) : Nat := (x / 2 &&& m) + (x &&& m)
def S2 (m x : Nat) : Nat := (x / 4 &&& m) + (x &&& m)
def S3 (m x : Nat) : Nat := (x + x / 16) &&& m
set_option maxRecDepth 100000 in
theorem low1 : ∀ l < 256, ∀ q < 2, (128 * q + l / 2) &&& 85 = l / 2 &&& 85 := by decide +kernel
set_option maxRecDepth 100000 in
theorem low2 : ∀ l < 256, ∀ q < 4, (64 * q + l / 4) &&& 51 = l / 4 &&& 51 := by decide +kernel
set_option maxRecDepth 100000 in
theorem byteFacts : ∀ l < 256, t1 l < 256 ∧ t2 (t1 l) < 256 ∧ t2 (t1 l) % 16 ≤ 4 ∧ t2 (t1 l) / 16 ≤ 4 ∧ t3 (t2 (t1 l)) = pc 8 l ∧ pc 8 l ≤ 8 := by decide +kernel
theorem S1_val : ∀ bs : List Nat, (∀ b ∈ bs, b < 256) → S1 (val (List.replicate bs.length 85)) (val bs) = val (bs.map t1)
  | [], _ => rfl
  | l :: bs, hb => by
    have hl := hb l (by simp)
    have ih := S1_val bs fun b h => hb b (List.mem_cons_of_mem _ h)
    simp only [S1, List.length_cons, List.replicate_succ, val, List.map_cons] at ih ⊢
    generalize val bs = h at *
    generalize val (List.replicate bs.length 85) = m at *
    rw [split_and hl (by decide), show (256 * h + l) / 2 = 256 * (h / 2) + (128 * (h % 2) + l / 2) by omega, split_and (by omega) (by decide), low1 l hl _ (by omega), ← ih, t1]
    omega
theorem S2_val : ∀ bs : List Nat, (∀ b ∈ bs, b < 256) → S2 (val (List.replicate bs.length 51)) (val bs) = val (bs.map t2)
  | [], _ => rfl
  | l :: bs, hb => by
    have hl := hb l (by simp)
    have ih := S2_val bs fun b h => hb b (List.mem_cons_of_mem _ h)
    simp only [S2, List.length_cons, List.replicate_succ, val, List.map_cons] at ih ⊢
    generalize val bs = h at *
    generalize val (List.replicate bs.length 51) = m at *
    rw [split_and hl (by decide), show (256 * h + l) / 4 = 256 * (h / 4) + (64 * (h % 4) + l / 4) by omega, split_and (by omega) (by decide), low2 l hl _ (by omega), ← ih, t2]
    omega
theorem val_mod16 : ∀ bs : List Nat, (∀ b ∈ bs, b % 16 ≤ 4) → val bs % 16 ≤ 4
  | [], _ => by decide
  | l :: bs, hb => by
    have := hb l (by simp)
    simp only [val]; omega
theorem S3_val : ∀ bs : List Nat, (∀ b ∈ bs, b < 256 ∧ b % 16 ≤ 4 ∧ b / 16 ≤ 4) → S3 (val (List.replicate bs.length 15)) (val bs) = val (bs.map t3)
  | [], _ => rfl
  | l :: bs, hb => by
    obtain ⟨hl, h1, h2⟩ := hb l (by simp)
    have ih := S3_val bs fun b h => hb b (List.mem_cons_of_mem _ h)
    have hm := val_mod16 bs fun b h => (hb b (List.mem_cons_of_mem _ h)).2.1
    simp only [S3, List.length_cons, List.replicate_succ, val, List.map_cons] at ih ⊢
    generalize val bs = h at *
    generalize val (List.replicate bs.length 15) = m at *
    have e : 256 * h + l + (256 * h + l) / 16 = 256 * (h + h / 16) + (16 * (h % 16) + l / 16 + l) := by omega
    have e2 : (16 * (h % 16) + l / 16 + l) &&& 15 = t3 l := by
      rw [show (15 : Nat) = 2 ^ 4 - 1 from rfl, Nat.and_two_pow_sub_one_eq_mod, t3]
      omega
    rw [e, split_and (by omega) (by decide), e2, ih]
theorem sum_bytes {p0 p1 p2 p3 p4 p5 p6 p7 S d e : Nat} (h0 : p0 ≤ 8) (h1 : p1 ≤ 8) (h2 : p2 ≤ 8) (h3 : p3 ≤ 8) (h4 : p4 ≤ 8) (h5 : p5 ≤ 8) (h6 : p6 ≤ 8) (h7 : p7 ≤ 8)
    (hS : S = p0 + 256 * (p1 + 256 * (p2 + 256 * (p3 + 256 * (p4 + 256 * (p5 + 256 * (p6 + 256 * p7))))))) (hd : d = S + S / 256) (he : e = d + d / 65536) : (e + e / 4294967296) % 128 = p0 + p1 + p2 + p3 + p4 + p5 + p6 + p7 := by
  have a1 : S / 256 = p1 + 256 * (p2 + 256 * (p3 + 256 * (p4 + 256 * (p5 + 256 * (p6 + 256 * p7))))) := by omega
  have a2 : d = (p0 + p1) + 256 * (p1 + p2) + 65536 * ((p2 + p3) + 256 * (p3 + p4) + 65536 * ((p4 + p5) + 256 * (p5 + p6) + 65536 * ((p6 + p7) + 256 * p7))) := by omega
  clear a1 hd hS
  have a3 : d / 65536 = (p2 + p3) + 256 * (p3 + p4) + 65536 * ((p4 + p5) + 256 * (p5 + p6) + 65536 * ((p6 + p7) + 256 * p7)) := by omega
  have a4 : e = (p0 + p1 + p2 + p3) + 256 * (p1 + p2 + p3 + p4) + 65536 * (p2 + p3 + p4 + p5) + 16777216 * (p3 + p4 + p5 + p6) + 4294967296 * ((p4 + p5 + p6 + p7) + 256 * (p5 + p6 + p7) + 65536 * (p6 + p7) + 16777216 * p7) := by omega
  clear a2 a3 he
  have a5 : e / 4294967296 = (p4 + p5 + p6 + p7) + 256 * (p5 + p6 + p7) + 65536 * (p6 + p7) + 16777216 * p7 := by omega
  omega
def bytes (x : Nat) : List Nat := [x % 256, x / 256 % 256, x / 65536 % 256, x / 16777216 % 256, x / 4294967296 % 256, x / 1099511627776 % 256, x / 281474976710656 % 256, x / 72057594037927936]
theorem val_bytes (x : Nat) : val (bytes x) = x := by
  simp only [bytes, val]; omega
theorem popc_bytes (x : Nat) (hx : x < 18446744073709551616) : popc x = (((bytes x).map (pc 8)).foldr (· + ·) 0) := by
  have e : ∀ y, pc 8 (y % 256) = pc 8 y := fun y => pc_mod 8 y
  simp only [bytes, List.map_cons, List.map_nil, List.foldr_cons, List.foldr_nil, e]
  have s : ∀ (k y : Nat), pc (8 + k) y = pc 8 y + pc k (y / 256) := fun k y => pc_add 8 k y
  have d : ∀ a b : Nat, x / a / b = x / (a * b) := fun a b => Nat.div_div_eq_div_mul _ _ _
  show pc (8 + (8 + (8 + (8 + (8 + (8 + (8 + (8 + 0)))))))) x = _
  simp only [s, d, Nat.reduceMul]
  rfl
def trick (x : Nat) : Nat :=
  let a := S1 6148914691236517205 x
  let b := S2 3689348814741910323 a
  let c := S3 1085102592571150095 b
  let d := c + c / 256
  let e := d + d / 65536
  let f := e + e / 4294967296
  f % 128
theorem val_le : ∀ L : List Nat, (∀ b ∈ L, b ≤ 68) → val L ≤ val (List.replicate L.length 68)
  | [], _ => Nat.le_refl _
  | b :: L, h => by
    have h1 := val_le L fun c hc => h c (List.mem_cons_of_mem _ hc)
    have h2 := h b (by simp)
    simp only [val, List.length_cons, List.replicate_succ]; omega
theorem trick_steps (x : Nat) (hx : x < 18446744073709551616) :
    S1 6148914691236517205 x < 18446744073709551616 ∧ S2 3689348814741910323 (S1 6148914691236517205 x) ≤ 4919131752989213764 ∧
    S3 1085102592571150095 (S2 3689348814741910323 (S1 6148914691236517205 x)) < 651061555542690057 ∧ trick x = popc x := by
  have hb : ∀ b ∈ bytes x, b < 256 := by
    simp only [bytes, List.mem_cons, List.not_mem_nil, or_false]
    rintro b (rfl | rfl | rfl | rfl | rfl | rfl | rfl | rfl) <;> omega
  have h1 := S1_val (bytes x) hb
  rw [val_bytes, show val (List.replicate (bytes x).length 85) = 6148914691236517205 from by show val (List.replicate 8 85) = _; decide] at h1
  have hb1 : ∀ b ∈ (bytes x).map t1, b < 256 := by
    intro b hb'
    obtain ⟨l, hl, rfl⟩ := List.mem_map.1 hb'
    exact (byteFacts l (hb l hl)).1
  have h2 := S2_val _ hb1
  rw [show val (List.replicate ((bytes x).map t1).length 51) = 3689348814741910323 from by show val (List.replicate 8 51) = _; decide, ← h1] at h2
  have hb2 : ∀ b ∈ ((bytes x).map t1).map t2, b < 256 ∧ b % 16 ≤ 4 ∧ b / 16 ≤ 4 := by
    intro b hb'
    obtain ⟨l', hl', rfl⟩ := List.mem_map.1 hb'
    obtain ⟨l, hl, rfl⟩ := List.mem_map.1 hl'
    obtain ⟨_, q1, q2, q3, _⟩ := byteFacts l (hb l hl)
    exact ⟨q1, q2, q3⟩
  have h3 := S3_val _ hb2
  rw [show val (List.replicate (((bytes x).map t1).map t2).length 15) = 1085102592571150095 from by show val (List.replicate 8 15) = _; decide, ← h2] at h3
  have h4 : (((bytes x).map t1).map t2).map t3 = (bytes x).map (pc 8) := by
    rw [List.map_map, List.map_map]
    apply List.map_congr_left
    intro l hl
    exact (byteFacts l (hb l hl)).2.2.2.2.1
  rw [h4] at h3
  have hv : ∀ L : List Nat, (∀ b ∈ L, b < 256) → val L < 256 ^ L.length := by
    intro L
    induction L with
    | nil => intro _; decide
    | cons b L ih =>
      intro h
      have h5 := ih fun c hc => h c (List.mem_cons_of_mem _ hc)
      have h6 := h b (by simp)
      simp only [val, List.length_cons, Nat.pow_succ]; omega
  have v1 := hv _ hb1
  have v2 := val_le _ fun b h => (by have := hb2 b h; omega : b ≤ 68)
  rw [show val (List.replicate (((bytes x).map t1).map t2).length 68) = 4919131752989213764 from by show val (List.replicate 8 68) = _; decide] at v2
  rw [← h1] at v1
  rw [← h2] at v2
  have hp := popc_bytes x hx
  have hle : ∀ b ∈ bytes x, pc 8 b ≤ 8 := fun l hl => (byteFacts l (hb l hl)).2.2.2.2.2
  unfold trick
  simp only [h3, hp]
  simp only [bytes, List.map_cons, List.map_nil, List.foldr_cons, List.foldr_nil, val, List.length_cons, List.length_nil, List.mem_cons, List.not_mem_nil, or_false, forall_eq_or_imp, forall_eq] at *
  generalize pc 8 (x % 256) = p0 at *
  generalize pc 8 (x / 256 % 256) = p1 at *
  generalize pc 8 (x / 65536 % 256) = p2 at *
  generalize pc 8 (x / 16777216 % 256) = p3 at *
  generalize pc 8 (x / 4294967296 % 256) = p4 at *
  generalize pc 8 (x / 1099511627776 % 256) = p5 at *
  generalize pc 8 (x / 281474976710656 % 256) = p6 at *
  generalize pc 8 (x / 72057594037927936) = p7 at *
  refine ⟨by simpa using v1, v2, by omega, ?_⟩
  rw [sum_bytes hle.1 hle.2.1 hle.2.2.1 hle.2.2.2.1 hle.2.2.2.2.1 hle.2.2.2.2.2.1 hle.2.2.2.2.2.2.1 hle.2.2.2.2.2.2.2 (by omega) rfl rfl]
  omega
end Go.Ab.Moss
