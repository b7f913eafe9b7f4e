/- The moss laws' arguments, read as plain data; what the rows' condition on package-level variables gives. -/
import Derived.Test.YtjipgkhfbfpacaaDoorTie
import Derived.Test.YtjipgkhfbfpacaaDoorMossD
import Derived.Test.YtjipgkhfbfpacaaDoorAbI
import Derived.LaidMore
import Derived.Lib.LaidTab
import Derived.OpenShut
import Derived.Stop.Joined
import Derived.Stop.LaidErr
import Derived.Lay
import Derived.Shelf.Vars
import Derived.Handed
import Derived.Test.YtjipgkhfbfpacaaDoorAbJ
set_option linter.all false
set_option maxRecDepth 100000
namespace Go.Proofs.YtjipgkhfbfpacaaDoor
open Go.ChangeShapes Go.WideShapes Go.ChangeAt Go.RowKit Go.Ab Go.Ab.Moss
theorem own : ownKnob Tryd.prog.godebug = none := by kernel_rfl
theorem laid : laidOutB Tryd.prog = true := by kernel_rfl
abbrev laid7 : List (String × DataW Unit) := [("math/bits.deBruijn32tab", Rows.laid_math_bits_deBruijn32tab), ("math/bits.deBruijn64tab", Rows.laid_math_bits_deBruijn64tab), ("internal/strconv.uint64pow10", Rows.laid_internal_strconv_uint64pow10), ("unicode/utf8.acceptRanges", Rows.laid_unicode_utf8_acceptRanges), ("strconv.ErrRange", Rows.laid_strconv_ErrRange), ("strconv.ErrSyntax", Rows.laid_strconv_ErrSyntax), ("unicode/utf8.first", Rows.laid_unicode_utf8_first)]
theorem gTab : Tryd.prog.globalNamed "math/bits.deBruijn64tab" = some 0 := by kernel_rfl
theorem gSyn : Tryd.prog.globalNamed "strconv.ErrSyntax" = some 2 := by kernel_rfl
theorem gRan : Tryd.prog.globalNamed "strconv.ErrRange" = some 3 := by kernel_rfl
theorem tTab : (Tryd.prog.globals[0]?).map (·.type) = some 89 ∧ Tryd.prog.underlying 89 = some (.array 64 5) ∧ Tryd.prog.underlying 5 = some (.int .u8) ∧ Tryd.prog.cellsOf 5 = 1 ∧ Tryd.prog.cellsOf 89 = 64 := ⟨by kernel_rfl, by kernel_rfl, by kernel_rfl, by kernel_rfl, by kernel_rfl⟩
theorem tErr : (Tryd.prog.globals[2]?).map (·.type) = some 80 ∧ (Tryd.prog.globals[3]?).map (·.type) = some 80 ∧ ∃ ms, Tryd.prog.underlying 80 = some (.interface ms) := by
  refine ⟨by kernel_rfl, by kernel_rfl, ?_⟩
  have h : isIfaceP Tryd.prog 80 = true := by kernel_rfl
  unfold isIfaceP at h
  split at h
  · exact ⟨_, by assumption⟩
  · cases h
theorem laid_met (os : Os) (args : Array Value) : laidMetH Tryd.prog laid7 ((World.laidAll Tryd.prog os laid7).forCall (fun _ _ => 0) ⟨#[], args, []⟩).memory := by
  rw [MakeChecks.laidMetH_plain _ _ _ (by kernel_rfl)]
  exact laidMet_laidAll _ (by kernel_rfl) (by kernel_rfl)
theorem glob_lt {g : Nat} (h : decide (g < Tryd.prog.globals.size) = true) : g < Tryd.prog.globals.size := of_decide_eq_true h
theorem glob_cells {W : World} (hs : W.ShapedOpen Tryd.prog) {g : Nat} (hg : g < Tryd.prog.globals.size) (h0 : ((((begin Tryd.prog (fun _ _ => 0) default).world.heap[g]?).bind Obj.row?).isSome) = true) : ∃ cur t, W.heap[g]? = some (.cells cur t (0, 0)) := by
  obtain ⟨⟨zero, t⟩, h⟩ := Option.isSome_iff_exists.1 h0
  obtain ⟨cs, h1, _⟩ := hs.1 g zero t hg h
  exact ⟨cs, t, h1⟩
theorem glob_iface {W : World} {n nm : String} {d : DataW Unit} {r : List (String × DataW Unit)} {g : Nat} (h : laidMet Tryd.prog ((n, .iface nm d) :: r) W) (hg : Tryd.prog.globalNamed n = some g) (ht : (Tryd.prog.globals[g]?).map (·.type) = some 80) : ∃ v, W.cell? ⟨g, 0, none⟩ = some v ∧ (v = .nilIface ∨ ∃ t p, v = .iface t p) := by
  obtain ⟨ps, ⟨g', t', cs, fuel, p, q, hg', ht', hvar, hd, _, _⟩, _⟩ := h
  obtain rfl := Option.some.inj (hg.symm.trans hg')
  obtain rfl := Option.some.inj (ht.symm.trans ht')
  obtain ⟨ms, hi⟩ := tErr.2.2
  obtain ⟨_, u, v, hcs, _⟩ := iface_of_trod hi hd
  have h0 := World.var?_cell hg hvar 0
  refine ⟨.iface u v, ?_, .inr ⟨u, v, rfl⟩⟩
  have h1 : cs[0]? = some (.iface u v) := by
    rw [← Array.getElem?_toList, hcs]; rfl
  rw [h0]; exact h1
theorem of_laid {W : World} (h : laidMetH Tryd.prog laid7 W) (hs : W.ShapedOpen Tryd.prog) : Laid W := by
  rw [MakeChecks.laidMetH_plain _ _ _ (by kernel_rfl)] at h
  obtain ⟨h1, h2, h3, h4, h5⟩ := tTab
  have hT : Lib.TabIs Tryd.prog W "math/bits.deBruijn64tab" .u8 deBruijnI := Lib.tabIs_of_head gTab h1 h2 h3 h4 h5 h.tail
  have hR := glob_iface h.tail.tail.tail.tail gRan tErr.2.1
  have hS := glob_iface h.tail.tail.tail.tail.tail gSyn tErr.1
  obtain ⟨m, hm⟩ := cell_of_shapedOpen_int (g := 1) (t := 3) (zero := #[.int .i64 0]) (k := .i64) hs (glob_lt (by kernel_rfl)) (by kernel_rfl) (by kernel_rfl) (by kernel_rfl) (by kernel_rfl) Tryd.underlying3
  intro p hp
  simp only [laidTab, List.mem_cons, List.not_mem_nil, or_false] at hp
  rcases hp with rfl | rfl | rfl | rfl
  · refine ⟨glob_cells hs (glob_lt (by kernel_rfl)) (by kernel_rfl), fun j C hj => ?_⟩
    have hlt : j < deBruijnI.length := by simpa using (List.getElem?_eq_some_iff.1 hj).1
    have := hT.cell gTab j hlt
    rw [this]
    simp only [List.getElem?_map, Option.map_eq_some_iff] at hj
    obtain ⟨z, hz, rfl⟩ := hj
    exact ⟨_, rfl, by simp [List.getD, hz]⟩
  · refine ⟨glob_cells hs (glob_lt (by kernel_rfl)) (by kernel_rfl), fun j C hj => ?_⟩
    match j, hj with
    | 0, hj => simp only [List.getElem?_cons_zero, Option.some.injEq] at hj; subst hj; exact ⟨_, hm, m, rfl⟩
  · refine ⟨glob_cells hs (glob_lt (by kernel_rfl)) (by kernel_rfl), fun j C hj => ?_⟩
    match j, hj with
    | 0, hj => simp only [List.getElem?_cons_zero, Option.some.injEq] at hj; subst hj; exact hS
  · refine ⟨glob_cells hs (glob_lt (by kernel_rfl)) (by kernel_rfl), fun j C hj => ?_⟩
    match j, hj with
    | 0, hj => simp only [List.getElem?_cons_zero, Option.some.injEq] at hj; subst hj; exact hR
theorem returns_and_shaped {H : Type} {enc : TypeId × Value → H} {a : Assume} {C : Checked} {os : Os} {f : FuncId} {fn : Func} {s : ChangeSpec} {conds : List PathCond} {apart fresh handsOn again : Bool} {X : World → Array Value → Prop}
    (hX : ∀ (w w' : World) (args : Array Value), w.heap = w'.heap → X w args → X w' args)
    (own : ownKnob C.prog.godebug = none) (started : os.Started) (noInit : C.prog.inits.idxOf? f = none) (hfn : C.prog.funcs[f]? = some fn)
    (witness : ∃ (w : World) (tape : Tape) (i : Input), w.os = os ∧ (w.forCall tape i).Shaped C.prog ∧ i.vars = [] ∧ Input.okWide C.prog (w.forCall tape i) .any w.heap.size f i ∧
      ((s.pre enc C.prog fn conds apart (w.forCall tape i).memory i.args ∧ X (w.forCall tape i).memory i.args) ∧ sizedMet enc C.prog fn (OpenSpec.ofChange s) apart (w.forCall tape i).memory i.args) ∧ a.holds C.prog (lone (Frame.enter C.prog f i.args .normal) [] (w.forCall tape i)))
    (contract : ∀ (W : World) (base : Nat) (args : Array Value) (ds gs : List (DataW H)) (before : List MemPlace),
      (∀ (j : Nat) t v, fn.params[j]? = some t → args[j]? = some v → Value.okWide C.prog W .any base t v) →
      DataW.Whole enc C.prog fn.params.toList s.vars apart W args.toList ds gs before → X W args → W.ShapedOpen C.prog →
      Calls C.prog f args W fun e W' => ∃ v, e = .returned v ∧ s.post enc C.prog fn apart fresh handsOn again W args v W') :
    ReturnsInHanded a C os f .any (fun w args => (s.pre enc C.prog fn conds apart w args ∧ X w args) ∧ sizedMet enc C.prog fn (OpenSpec.ofChange s) apart w args) (s.post enc C.prog fn apart fresh handsOn again) := by
  refine returnsInHanded_of_calls own started noInit witness ?_
  intro w tape i _ hsh _ hok hpre hholds
  obtain ⟨_, _, _, fn', hfn', _, _, _, _, hval⟩ := hok
  have e : fn' = fn := Option.some.inj (hfn'.symm.trans hfn)
  subst e
  obtain ⟨⟨⟨ds, gs, before, hw, hc⟩, hx⟩, hz⟩ := hpre
  have hw' := DataW.Whole.of_heap (w' := w.forCall tape i) (by rfl) hw
  refine (contract (w.forCall tape i) w.heap.size i.args ds gs before hval hw' (hX _ _ _ (by rfl) hx) hsh).mono fun e W' ⟨v, he, hp⟩ => ?_
  subst he
  exact ChangeSpec.post_blind hp
theorem arg_str {H : Type} {enc : TypeId × Value → H} {W : World} {base : Nat} {v : Value} {d : DataW H} {ps : List MemPlace} (hv : Value.okWide Tryd.prog W .any base 9 v) (hd : DataW.Trod enc Tryd.prog W 0 (fun _ => true) true 9 v d ps) : ∃ T : Tx, RepD W (fun _ => False) (.str (bs T)) v := by
  obtain ⟨s, rfl⟩ := okWide_string Tryd.underlying9 hv
  obtain ⟨s', h⟩ := arg_one (F := fun s : ByteArray => DV.str s) (fun _ => rfl) (opens_str Tryd.underlying9) rfl hd
  exact ⟨s'.data.toList, by rw [bs_data]; exact h⟩
theorem opens_mw {H : Type} (enc : TypeId × Value → H) (W : World) : Opens enc Tryd.prog W 23 dMw :=
  (opens_three Tryd.underlying23 rfl (by kernel_rfl) (by kernel_rfl) (by kernel_rfl) (opens_int (k := .i64) Tryd.underlying3) (opens_int (k := .i64) Tryd.underlying3) (opens_int (k := .i64) Tryd.underlying3)).conv fun p => ⟨⟨p.1, p.2.1, p.2.2⟩, rfl⟩
theorem arg_mw {H : Type} {enc : TypeId × Value → H} {W : World} {base : Nat} {v : Value} {d : DataW H} {ps : List MemPlace} (hv : Value.okWide Tryd.prog W .any base 23 v) (hd : DataW.Trod enc Tryd.prog W 0 (fun _ => true) true 23 v d ps) : ∃ y, RepD W (fun _ => False) (dMw y) v := by
  obtain ⟨cs, rfl, _⟩ := okWide_struct Tryd.underlying23 hv
  exact arg_agg (fun _ => rfl) (opens_mw enc W) hd
theorem arg_int {H : Type} {enc : TypeId × Value → H} {W : World} {base : Nat} {v : Value} {d : DataW H} {ps : List MemPlace} (hv : Value.okWide Tryd.prog W .any base 3 v) (hd : DataW.Trod enc Tryd.prog W 0 (fun _ => true) true 3 v d ps) : ∃ n, RepD W (fun _ => False) (i64 n) v := by
  obtain ⟨n, rfl, _⟩ := okWide_int Tryd.underlying3 hv
  exact arg_one (F := fun n : Int => i64 n) (fun _ => rfl) (opens_int Tryd.underlying3) rfl hd
end Go.Proofs.YtjipgkhfbfpacaaDoor
