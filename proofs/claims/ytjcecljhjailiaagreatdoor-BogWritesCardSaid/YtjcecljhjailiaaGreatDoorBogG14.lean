/- Ab36, Ab37, Ab38, Ab49, Ab50, Ab39, Ab40. -/
import Derived.Test.YtjcecljhjailiaaGreatDoorBogG13
set_option linter.all false
namespace Go.Ab
open Go.RowKit
section
variable {cx : Cx} {S S' : St} {a : Act} {w w' : World} {μ : Nat → Option (Nat × Nat)}
def RfOk (cx : Cx) (rf post : Code) (K : Exit → St → Prop) (S : St) : Prop :=
  ∀ a w, Sim cx S a w → rf.wpIn cx.fence 0 cx.P (Exit.then (post.wpIn cx.fence 0 cx.P (Post cx K)) (Post cx K)) a w
def rfK (cx : Cx) (rf post : Code) (K : Exit → St → Prop) : Exit → St → Prop
  | .normal, S => RfOk cx rf post K S
  | e, S => K e S
theorem awp_seq_seq_rf {c rf post : Code} {K : Exit → St → Prop} (h : AWp cx c (rfK cx rf post K) S) : AWp cx (.seq (.seq c rf) post) K S := by
  intro a w hs
  refine wpIn_seq (wpIn_seq (wpIn_mono (h a w hs) ?_))
  rintro e a' w' (⟨S', h1, h2⟩ | ⟨rfl, hf⟩)
  · cases e with
    | normal => exact h2 a' w' h1
    | _ => exact .inl ⟨S', h1, h2⟩
  · exact .inr ⟨rfl, hf⟩
theorem awp_range (hg : cx.Good) (hrn : cx.rnd = none) (hdq : cx.dq = []) {fn : Func} {ds : List DV} (hfin : ∀ a w, FinR cx.P fn ds cx.w0 cx.Wr a w → cx.fin a w)
    {s gf : Nat} {caps : List DV} {xs : List (List DV)} (hseq : ASeq cx.P gf caps xs) {F : Nat → SV} (inv : Nat → Nat → Nat × Option Blk) (hS : Le cx S ⟨F, inv 0⟩) (hF : F s = .dv (.fn gf [] caps))
    {ps : Array Nat} {bid : Nat} {assign body post : Code} {K : Exit → St → Prop} (hps : ∀ p ∈ ps.toList, p < cx.n) (hpx : ∀ x ∈ xs, x.length = ps.size)
    (round : ∀ k x, xs[k]? = some x → RoundOk cx ps.toList assign body F (inv k) x (inv (k + 1)))
    (hpost : ∀ cx' : Cx, cx'.P = cx.P → cx'.n = cx.n → cx'.Good → AWp cx' post (EndS cx.P fn.results.toList ds) ⟨F, inv xs.length⟩) :
    RfOk cx (.block bid (.rangeFunc (.tmp s) ps assign body)) post K S := by
  rintro a w hs
  obtain ⟨μ, h⟩ := hS a w hs
  have hfen : cx.fence = Fence.wide := by unfold Cx.fence; rw [hrn]; rfl
  refine wpIn_block ?_
  rw [hfen]
  refine wpIn_rangeFunc fun fnid hfn => ?_
  show ∃ (l : Nat) (mark : List Deferred) (w₁ : World) (d : Deferred) (w₁' : World) (f : FuncId) (args : Array Value) (w₂ : World), (Instr.enterLoop fnid a.tmps ps assign body none).run cx.P w = _ ∧ _
  -- the iterator's value
  have hv : ∀ {W : World} {μ : Nat → Option (Nat × Nat)} {M : Nat → Nat × Option Blk}, SimU cx ⟨F, M⟩ a W μ → RepD W (fun _ => False) (.fn gf [] caps) (a.tmps.getD s undef) := fun {W μ M} hh => by
    have := hh.slot s
    rw [show (⟨F, M⟩ : St).F s = F s from rfl, hF] at this
    simp only [SVRep] at this
    exact this.weaken fun _ hf => hf.elim
  obtain ⟨vc, hvc⟩ : ∃ vc, a.tmps.getD s undef = .func (.func gf) #[] vc := by
    have h1 := hv h
    generalize a.tmps.getD s undef = v at h1
    cases h1 with
    | fn _ _ _ vp vc p1 p2 p3 p4 =>
      have : vp = #[] := by simpa using p1
      subst this
      exact ⟨vc, rfl⟩
  have hArgs : ∀ {W : World} {μ : Nat → Option (Nat × Nat)} {M : Nat → Nat × Option Blk}, SimU cx ⟨F, M⟩ a W μ → Args W (fun _ => False) caps vc := fun {W μ M} hh => by
    have h1 := hv hh
    rw [hvc] at h1
    cases h1 with
    | fn _ _ _ vp vc p1 p2 p3 p4 => exact ⟨p2, p4⟩
  have hev : a.eval (.tmp s) = .func (.func gf) #[] vc := hvc
  -- the two blocks of the loop
  obtain ⟨rec, hrec⟩ : ∃ rec : LoopState → Loop, rec = fun st => { state := st, pending := none, fn := fnid, tmps := a.tmps, params := ps, assign, body, defers := w.heap.size } := ⟨_, rfl⟩
  obtain ⟨W1, hW1⟩ : ∃ W1, (w.alloc (.deferred (some []))).alloc (.loop (rec .ready)) = W1 := ⟨_, rfl⟩
  have hL1 : W1.heap[w.heap.size + 1]? = some (.loop (rec .ready)) := by
    rw [← hW1]; have := World.alloc_heap_new (w.alloc (.deferred (some []))) (.loop (rec .ready)); rwa [World.size_alloc] at this
  have hD1 : W1.heap[w.heap.size]? = some (.deferred (some [])) := by
    rw [← hW1]; exact (Below.heap_alloc _ _ _ (by simp)).trans (World.alloc_heap_new w _)
  have h1 : SimU cx ⟨F, inv 0⟩ a W1 μ := by
    rw [← hW1]
    exact (h.turn (World.grownBy_alloc w _ none) (fun r e => by cases e)).turn (World.grownBy_alloc _ _ none) (fun r e => by cases e)
  have hw0 := h.below.size
  obtain ⟨⟨fn0, q1, q2, q3⟩, hfree, hcall⟩ := hseq
  have hen : EnterP cx.P gf := ⟨fn0, q1, q2, q3⟩
  refine ⟨w.heap.size + 1, [{ target := .collected w.heap.size, args := #[] }], W1, { target := .fn (.func gf) vc, args := #[.func (.yield (w.heap.size + 1)) #[] #[]] }, W1, gf,
    #[.func (.yield (w.heap.size + 1)) #[] #[]] ++ vc, W1, ?_, ?_, fun _ _ => trivial, ?_, fun hd => by simp [Fence.wide] at hd, ?_⟩
  · rw [← hW1, hrec]; exact run_enterLoop_outer _ _ _ _ _
  · simp only [resolve, hev]
    simp [go_sem]
  · simp [invoke, go_sem, enter_run hen]
  · refine (hcall (w.heap.size + 1) vc (fun k W => (∃ μ, SimU cx ⟨F, inv k⟩ a W μ) ∧ W.heap[w.heap.size + 1]? = some (.loop (rec .ready)) ∧ W.heap[w.heap.size]? = some (.deferred (some []))) W1 ?_ ?_ ?_ ⟨⟨_, h1⟩, hL1, hD1⟩).mono ?_
    · rintro k A B row ⟨⟨μ, hA⟩, hl, hD⟩ hgr hr
      have hr' : ∀ r, row = some r → ∃ o : Obj, A.heap[r]? = some o ∧ o.isWalk = true := fun r e => (hr r e).2
      refine ⟨⟨μ, hA.turn hgr fun r e => ?_⟩, (grownBy_keeps hgr hr' hl rfl).trans hl, (grownBy_keeps hgr hr' hD rfl).trans hD⟩
      obtain ⟨hB, o, ho, hw⟩ := hr r e
      refine ⟨.inl ?_, o, ho, Obj.not_cells_of_walk hw⟩
      rw [← hW1] at hB
      simp at hB
      omega
    · rintro k W ⟨⟨μ, hA⟩, _⟩
      exact hArgs hA
    · rintro k x W hx ⟨⟨μ, hA⟩, hl, hD⟩
      have hxm := List.mem_of_getElem? hx
      have hy := run_yield (P := cx.P) (args := (DV.vals x).toArray) hl (by rw [hrec]; simp [vals_len, hpx x hxm])
      rw [hrec] at hy
      refine ⟨fnid, _, assign, body, hy, ?_⟩
      refine (round_in (S := ⟨F, inv k⟩) hg hA hps (hfree x hxm) (round k x hx) (l := w.heap.size + 1) (D := w.heap.size) (rec := rec) hl (by omega) hD (by omega) (by rw [hrec]; exact fun _ => rfl) (by rw [hrec]; exact fun _ _ => rfl) (by rw [hrec]; exact fun _ => rfl)).mono ?_
      rintro e W' ⟨h2, h3, h4, h5⟩
      exact ⟨h2, h3, h4, h5⟩
    · rintro e W2 ⟨⟨v, rfl⟩, ⟨μ2, h2⟩, hl2, hD2⟩
      have hpn : (rec .ready).pending = none := by rw [hrec]
      obtain ⟨W3, o3, hle, hW3⟩ : ∃ W3 o, (Instr.endLoop (w.heap.size + 1)).run cx.P W2 = .ok none W3 ∧ W2.putObj (w.heap.size + 1) o = W3 := by
        refine ⟨_, .loop { rec .ready with state := .exhausted }, ?_, rfl⟩
        have := run_endLoop (P := cx.P) hl2 (by rw [hrec]; simp)
        exact this.trans (congrArg (fun p => Result.ok p _) hpn)
      refine ⟨none, W3, hle, ?_⟩
      have h3 : SimU cx ⟨F, inv xs.length⟩ a W3 μ2 := by
        rw [← hW3]
        exact h2.turn (grownBy_putObj' W2 _ _) (fun r e => by cases e; exact ⟨.inl (by omega), _, hl2, rfl⟩)
      have hD3 : W3.heap[w.heap.size]? = some (.deferred (some [])) := by rw [← hW3]; exact (World.putObj_heap_other (by omega)).trans hD2
      have hDlt := (Array.getElem?_eq_some_iff.1 hD3).1
      -- the frame behind the loop
      let cx2 : Cx := { P := cx.P, w0 := W3, n := cx.n, Wr := fun b => ∃ t g blk cap, inv xs.length t = (g, some blk) ∧ μ2 t = some (b, cap), X0 := cx.X0, loc := cx.loc, dq := [{ target := .collected w.heap.size, args := #[] }] }
      have hpl : ∀ b, cx2.Wr b → (cx.w0.heap.size ≤ b ∨ cx.Wr b) ∧ b < W3.heap.size := fun b ⟨t, g, blk, cap, e1, e2⟩ => h3.place t g blk b cap e1 e2
      have hwD : ∀ b, cx2.Wr b → b ≠ w.heap.size := fun b ⟨t, g, blk, cap, e1, e2⟩ e => by
        subst e
        have := h3.blk t g blk e1
        unfold BlkRep at this
        rw [e2] at this
        obtain ⟨cur, h5, _⟩ := this
        rw [hD3] at h5
        cases h5
      have hg2 : cx2.Good := by
        refine ⟨fun b hb => ⟨Nat.lt_of_lt_of_le (hg.1 b hb).1 h3.below.size, fun hw => ?_⟩, (h3.laid hg).1, fun g hk => ⟨(hg.2.2 g hk).1, fun hw => ?_⟩⟩
        · rcases (hpl b hw).1 with h4 | h4
          · have := (hg.1 b hb).1; omega
          · exact (hg.1 b hb).2 h4
        · rcases (hpl g hw).1 with h4 | h4
          · have := hg.2.1.lt hk; omega
          · exact (hg.2.2 g hk).2 h4
      have h4 : SimU cx2 ⟨F, inv xs.length⟩ { a with defers := [{ target := .collected w.heap.size, args := #[] }] } W3 μ2 :=
        ⟨h3.blk, h3.slot, fun t g blk b cap e hm => ⟨.inr ⟨t, g, blk, cap, e, hm⟩, (h3.place t g blk b cap e hm).2⟩, h3.uniq, h3.anc, BelowW.refl _ _, h3.size, rfl⟩
      have hda : a.defers = [] := h3.defers.trans hdq
      show Code.wpIn Fence.wide 0 cx.P post (Post cx K) { a with defers := [{ target := .collected w.heap.size, args := #[] }] ++ a.defers } W3
      rw [hda]
      refine wpIn_mono (hpost cx2 rfl rfl hg2 _ W3 ⟨_, h4⟩) ?_
      rintro e a' w' (⟨S', ⟨μ', h5⟩, rfl, hfr, hres⟩ | ⟨_, hf⟩)
      rotate_left
      · exact (show False from hf).elim
      refine .inr ⟨rfl, hfin _ _ ?_⟩
      have hDw : w'.heap[w.heap.size]? = some (.deferred (some [])) := by
        rw [h5.below.block w.heap.size hDlt (fun hw => hwD _ hw rfl)]; exact hD3
      have h6 : SimU cx2.loose S' a' (w'.putObj w.heap.size (.deferred none)) μ' := h5.loose.turn (grownBy_putObj' w' _ _) (fun r e => by cases e; exact ⟨.inr trivial, _, hDw, rfl⟩)
      obtain ⟨us, u1, u2⟩ := results_val (fn := fn) h6 hres
      refine ⟨w.heap.size, us, h5.defers, hDw, by omega, ?_, u1, by simpa using u2.length, fun j d u hd hu => ?_⟩
      · refine h3.below.then h5.below fun i hi hw hw2 => ?_
        rcases (hpl i hw2).1 with h7 | h7
        · omega
        · exact hw h7
      · have := u2.get j (.dv d) u (by simp [hd]) hu
        simp only [SVRep] at this
        refine rep_free this ?_ _ _
        have : ∀ (cs : List DV) (j : Nat) c, DV.frees cs = true → cs[j]? = some c → c.free = true := by
          intro cs
          induction cs with
          | nil => intro j c _ h; simp at h
          | cons c0 cs ih =>
            intro j c h hj
            simp only [DV.frees, Bool.and_eq_true] at h
            cases j with
            | zero => simp only [List.getElem?_cons_zero, Option.some.injEq] at hj; subst hj; exact h.1
            | succ j => exact ih j c h.2 (by simpa using hj)
        exact this ds j d hfr hd
theorem valOf_one {u : Value} : valOf [u] = u := by simp [valOf]
theorem valOf_many {us : List Value} (h : us.length ≠ 1) : valOf us = .tuple us.toArray := by
  unfold valOf
  rw [dif_neg (by simpa using h)]
theorem resRep_free {B : Nat} {Y : Nat → Prop} : ∀ (ds : List DV) (us : List Value), us.length = ds.length → (∀ (j : Nat) d u, ds[j]? = some d → us[j]? = some u → RepD w (fun _ => True) d u) → R1Reps B w Y (ds.map .dv) us (ds.map fun _ => none)
  | [], [], _, _ => trivial
  | [], _ :: _, h, _ => by simp at h
  | _ :: _, [], h, _ => by simp at h
  | d :: ds, u :: us, hl, h => ⟨⟨rfl, (h 0 d u rfl rfl).weaken fun _ _ => trivial⟩, resRep_free ds us (by simpa using hl) fun j d' u' hd hu => h (j + 1) d' u' (by simpa using hd) (by simpa using hu)⟩
theorem resRep_all {B : Nat} {Y : Nat → Prop} (ds : List DV) (us : List Value) (hl : us.length = ds.length) (h : ∀ (j : Nat) d u, ds[j]? = some d → us[j]? = some u → RepD w (fun _ => True) d u) : ResRep B w Y (resOf (ds.map .dv)) (valOf us) := by
  match ds, us, hl, h with
  | [d], [u], _, h =>
    rw [valOf_one]
    exact ⟨none, rfl, (h 0 d u rfl rfl).weaken fun _ _ => trivial⟩
  | [], [], _, h => 
    rw [valOf_many (by simp)]
    exact ⟨[], [], rfl, trivial, .nil⟩
  | d :: d' :: ds, u :: u' :: us, hl, h =>
    rw [valOf_many (by simp)]
    refine ⟨u :: u' :: us, (d :: d' :: ds).map fun _ => none, rfl, resRep_free (d :: d' :: ds) _ hl h, ?_⟩
    rw [List.pairwise_map]
    have pw : ∀ l : List DV, l.Pairwise fun (_ _ : DV) => ∀ (b c c' : Nat), (none : Option (Nat × Nat)) = some (b, c) → (none : Option (Nat × Nat)) ≠ some (b, c') := by
      intro l
      induction l with
      | nil => exact .nil
      | cons x l ih => exact .cons (fun _ _ b c c' hx => by cases hx) ih
    exact pw _
  | d :: ds, [], hl, _ => simp at hl
  | [d], _ :: _ :: _, hl, _ => simp at hl
  | _ :: _ :: _, [_], hl, _ => simp at hl
  | [], _ :: _, hl, _ => simp at hl
theorem callsR_of {P : Program} {f : FuncId} {fn : Func} {c : Code} {ds0 ds : List DV} (hf : P.funcs[f]? = some fn) (hb : fn.body = some c) (hname : (fn.name == "runtime.NumGoroutine") = false) (hn : ds0.length ≤ fn.ntmps)
    (h : ∀ cx : Cx, cx.P = P → cx.n = fn.ntmps → cx.Good → cx.rnd = none → cx.dq = [] → (∀ a w, FinR cx.P fn ds cx.w0 cx.Wr a w → cx.fin a w) → AWp cx c (EndK P Scalar fn.results.toList (resOf (ds.map .dv))) ⟨startF ds0, fun _ => (0, none)⟩) : ACallsF P f ds0 (resOf (ds.map .dv)) := by
  refine ⟨enterP_of hf hb hname, fun w vs hL hA => callsIn_wide.1 (callsIn_of_wp_marks (F := Fence.wide) (n := 0) hf hb trivial ?_)⟩
  have hs0 := start_sim (P := P) hA hn
  let cx : Cx := { P := P, w0 := w, n := fn.ntmps, Wr := fun _ => False, X0 := fun _ => False, fin := FinR P fn ds w fun _ => False }
  have hs : SimU cx ⟨startF ds0, fun _ => (0, none)⟩ { tmps := vs ++ Array.replicate (fn.ntmps - vs.size) undef, defers := [] } w (fun _ => none) :=
    ⟨hs0.blk, hs0.slot, hs0.place, hs0.uniq, hs0.anc, hs0.below, hs0.size, hs0.defers⟩
  refine wpIn_mono (h cx rfl rfl ⟨fun b hb => hb.elim, hL, fun g _ => ⟨fun h => h, fun h => h⟩⟩ rfl rfl (fun _ _ hf => hf) _ w ⟨_, hs⟩) ?_
  rintro e a' w' (⟨S', ⟨μ, h1⟩, he, ss, rs, e1, e2, e3, e4⟩ | ⟨rfl, hf⟩)
  · rw [e4]
    obtain ⟨v, v1, v2⟩ := end_res (fn := fn) (Y := fun b => b < w.heap.size) h1 (fun b hb => hb) (fun b hb => hb) (fun d v hd hr => hd.rep hr) e1 e2 e3
    have hbl : Below w.heap.size w w' := ⟨h1.below.os, h1.below.tape, h1.below.output, h1.below.size, fun k hk => h1.below.block k hk (fun hf => hf)⟩
    have hd : a'.defers = [] := h1.defers
    rcases he with rfl | rfl <;> (show LeavesInM Fence.wide 0 P fn a'.tmps _ a'.defers .returning w'; rw [hd]; exact ⟨v, v1, v, rfl, hbl, v2⟩)
  · obtain ⟨D, us, hd, hD, hwD, hbel, hres, hlen, hus⟩ := hf
    show LeavesInM Fence.wide 0 P fn a'.tmps _ a'.defers .returning w'
    rw [hd]
    have hDlt := (Array.getElem?_eq_some_iff.1 hD).1
    refine ⟨by simp, .inl ⟨D, _, rfl, run_takeDeferred hD, valOf us, hres, valOf us, rfl, ?_, ?_⟩⟩
    · refine ⟨hbel.os, hbel.tape, hbel.output, by rw [World.putObj_size]; exact hbel.size, fun k hk => ?_⟩
      rw [World.putObj_heap_other (by omega)]
      exact hbel.block k hk fun hf => hf
    · refine resRep_all ds us hlen fun j d u hd' hu => ?_
      have hc : ∀ a v, w'.cell? a = some v → (w'.putObj D (.deferred none)).cell? a = some v := fun a v h1 => cell_kept h1 (grownBy_putObj' w' D _) (fun r e => by cases e; exact ⟨_, hD, rfl⟩)
      exact (hus j d u hd' hu).turn (by simp) hc
end
end Go.Ab
set_option linter.all false
namespace Go.Ab
open Go.RowKit
def andn (a b : Nat) : Nat := a ^^^ (a &&& b)
theorem and36 {a b : Nat} (ha : a < 68719476736) : a &&& b < 68719476736 := Nat.lt_of_le_of_lt Nat.and_le_left ha
theorem or36 {a b : Nat} (ha : a < 68719476736) (hb : b < 68719476736) : a ||| b < 68719476736 := Nat.or_lt_two_pow (n := 36) ha hb
theorem andn36 {a b : Nat} (ha : a < 68719476736) : andn a b < 68719476736 := Nat.xor_lt_two_pow (n := 36) ha (and36 ha)
theorem two36 {n : Nat} (h : n ≤ 35) : 2 ^ n < 68719476736 := Nat.pow_lt_pow_of_lt (a := 2) (n := n) (m := 36) (by decide) (by omega)
theorem bv_and {a b : Nat} (ha : a < 18446744073709551616) (hb : b < 18446744073709551616) : (BitVec.ofInt 64 (a : Int) &&& BitVec.ofInt 64 (b : Int)).toNat = a &&& b := by
  rw [BitVec.toNat_and, BitVec.toNat_ofInt, BitVec.toNat_ofInt]
  congr 1 <;> omega
theorem bv_or {a b : Nat} (ha : a < 18446744073709551616) (hb : b < 18446744073709551616) : (BitVec.ofInt 64 (a : Int) ||| BitVec.ofInt 64 (b : Int)).toNat = a ||| b := by
  rw [BitVec.toNat_or, BitVec.toNat_ofInt, BitVec.toNat_ofInt]
  congr 1 <;> omega
section
variable {P : Program} {S : St} {x y : Operand} {t e by' tg g o : Nat} {ob : Option Blk}
theorem m_andS {a b : Nat} {t2 : TypeId} (hx : S.ev x = .dv (.int .i64 (a : Int)) := by (simp only [St.look, St.ev, lk, mkM, blkOf, svOf, svOfCell, reduceIte, Nat.reduceAdd, Nat.reduceEqDiff, Nat.reduceMul] <;> rfl)) (hy : S.ev y = .dv (.int .i64 (b : Int)) := by (simp only [St.look, St.ev, lk, mkM, blkOf, svOf, svOfCell, reduceIte, Nat.reduceAdd, Nat.reduceEqDiff, Nat.reduceMul] <;> rfl)) (ha : a < 68719476736 := by (first | assumption | omega | decide | (repeat' (first | assumption | exact two36 (by omega) | apply or36 | apply and36 | apply andn36 | omega | decide)))) (hb : b < 68719476736 := by (first | assumption | omega | decide | (repeat' (first | assumption | exact two36 (by omega) | apply or36 | apply and36 | apply andn36 | omega | decide)))) : outOf P S (.binOp .and t x y t2) = some (.val (.dv (.int .i64 ((a &&& b : Nat) : Int)))) := by
  simp only [outOf, binSV, hx, hy, intBin, if_true, Option.map_some]
  have e' : ((BitVec.ofInt IntKind.i64.bits (a : Int) &&& BitVec.ofInt IntKind.i64.bits (b : Int)).toNat : Int) = ((a &&& b : Nat) : Int) := congrArg Int.ofNat (bv_and (by omega) (by omega))
  have := and36 (b := b) ha
  rw [e', wrap_i64 (by omega) (by omega)]
theorem m_andW {a b : Nat} {t2 : TypeId} (hx : S.ev x = .dv (.int .i64 (a : Int)) := by (simp only [St.look, St.ev, lk, mkM, blkOf, svOf, svOfCell, reduceIte, Nat.reduceAdd, Nat.reduceEqDiff, Nat.reduceMul] <;> rfl)) (hy : S.ev y = .dv (.int .i64 (b : Int)) := by (simp only [St.look, St.ev, lk, mkM, blkOf, svOf, svOfCell, reduceIte, Nat.reduceAdd, Nat.reduceEqDiff, Nat.reduceMul] <;> rfl)) (ha : a < 9223372036854775808 := by (first | omega | (simp only [Int.toNat_natCast, List.length_map, List.length_append, List.length_cons, List.length_nil, List.length_take, List.length_drop, List.length_set, List.length_replicate, Nat.zero_add, Nat.mul_one] <;> omega) | (simp <;> omega))) (hb : b < 9223372036854775808 := by (first | omega | (simp only [Int.toNat_natCast, List.length_map, List.length_append, List.length_cons, List.length_nil, List.length_take, List.length_drop, List.length_set, List.length_replicate, Nat.zero_add, Nat.mul_one] <;> omega) | (simp <;> omega))) : outOf P S (.binOp .and t x y t2) = some (.val (.dv (.int .i64 ((a &&& b : Nat) : Int)))) := by
  simp only [outOf, binSV, hx, hy, intBin, if_true, Option.map_some]
  have e' : ((BitVec.ofInt IntKind.i64.bits (a : Int) &&& BitVec.ofInt IntKind.i64.bits (b : Int)).toNat : Int) = ((a &&& b : Nat) : Int) := congrArg Int.ofNat (bv_and (by omega) (by omega))
  have : a &&& b ≤ a := Nat.and_le_left
  rw [e', wrap_i64 (by omega) (by omega)]
theorem m_orS {a b : Nat} {t2 : TypeId} (hx : S.ev x = .dv (.int .i64 (a : Int)) := by (simp only [St.look, St.ev, lk, mkM, blkOf, svOf, svOfCell, reduceIte, Nat.reduceAdd, Nat.reduceEqDiff, Nat.reduceMul] <;> rfl)) (hy : S.ev y = .dv (.int .i64 (b : Int)) := by (simp only [St.look, St.ev, lk, mkM, blkOf, svOf, svOfCell, reduceIte, Nat.reduceAdd, Nat.reduceEqDiff, Nat.reduceMul] <;> rfl)) (ha : a < 68719476736 := by (first | assumption | omega | decide | (repeat' (first | assumption | exact two36 (by omega) | apply or36 | apply and36 | apply andn36 | omega | decide)))) (hb : b < 68719476736 := by (first | assumption | omega | decide | (repeat' (first | assumption | exact two36 (by omega) | apply or36 | apply and36 | apply andn36 | omega | decide)))) : outOf P S (.binOp .or t x y t2) = some (.val (.dv (.int .i64 ((a ||| b : Nat) : Int)))) := by
  simp only [outOf, binSV, hx, hy, intBin, if_true, Option.map_some]
  have e' : ((BitVec.ofInt IntKind.i64.bits (a : Int) ||| BitVec.ofInt IntKind.i64.bits (b : Int)).toNat : Int) = ((a ||| b : Nat) : Int) := congrArg Int.ofNat (bv_or (by omega) (by omega))
  have := or36 ha hb
  rw [e', wrap_i64 (by omega) (by omega)]
theorem m_shlS {k : IntKind} {z : Int} (b : Nat) {t2 : TypeId} (hx : S.ev x = .dv (.int .i64 1) := by (simp only [St.look, St.ev, lk, mkM, blkOf, svOf, svOfCell, reduceIte, Nat.reduceAdd, Nat.reduceEqDiff, Nat.reduceMul] <;> rfl)) (hy : S.ev y = .dv (.int k z) := by (simp only [St.look, St.ev, lk, mkM, blkOf, svOf, svOfCell, reduceIte, Nat.reduceAdd, Nat.reduceEqDiff, Nat.reduceMul] <;> rfl)) (hz : z = (b : Int) := by (first | rfl | omega)) (hb : b ≤ 62 := by (first | omega | (simp only [Int.toNat_natCast, List.length_map, List.length_append, List.length_cons, List.length_nil, List.length_take, List.length_drop, List.length_set, List.length_replicate, Nat.zero_add, Nat.mul_one] <;> omega) | (simp <;> omega))) : outOf P S (.binOp .shl t x y t2) = some (.val (.dv (.int .i64 ((2 ^ b : Nat) : Int)))) := by
  subst hz
  have e : min b 64 = b := by omega
  simp only [outOf, binSV, hx, hy, shiftBin]
  rw [if_neg (by omega)]
  have h2 : 2 ^ b ≤ 4611686018427387904 := (Nat.pow_le_pow_right (by decide) hb : 2 ^ b ≤ 2 ^ 62)
  have h3 : (1 : Int) * 2 ^ b = ((2 ^ b : Nat) : Int) := by rw [Int.one_mul]; norm_cast
  simp only [Int.toNat_natCast, IntKind.bits, e, Option.map_some]
  rw [h3]
  generalize 2 ^ b = q at *
  rw [wrap_i64 (by omega) (by omega)]
theorem m_shrS {k : IntKind} {a : Nat} {z : Int} (b : Nat) {t2 : TypeId} (hx : S.ev x = .dv (.int .i64 (a : Int)) := by (simp only [St.look, St.ev, lk, mkM, blkOf, svOf, svOfCell, reduceIte, Nat.reduceAdd, Nat.reduceEqDiff, Nat.reduceMul] <;> rfl)) (hy : S.ev y = .dv (.int k z) := by (simp only [St.look, St.ev, lk, mkM, blkOf, svOf, svOfCell, reduceIte, Nat.reduceAdd, Nat.reduceEqDiff, Nat.reduceMul] <;> rfl)) (hz : z = (b : Int) := by (first | rfl | omega)) (hb : b ≤ 62 := by (first | omega | (simp only [Int.toNat_natCast, List.length_map, List.length_append, List.length_cons, List.length_nil, List.length_take, List.length_drop, List.length_set, List.length_replicate, Nat.zero_add, Nat.mul_one] <;> omega) | (simp <;> omega))) : outOf P S (.binOp .shr t x y t2) = some (.val (.dv (.int .i64 ((a / 2 ^ b : Nat) : Int)))) := by
  subst hz
  exact m_shr hx hy hb
theorem wrap_u64' {n : Int} (h1 : 0 ≤ n) (h2 : n < 18446744073709551616) : IntKind.u64.wrap n = n := by
  have e : IntKind.u64.wrap n = n % 18446744073709551616 := by
    simp only [IntKind.wrap, IntKind.bits, IntKind.signed]
    rfl
  rw [e]; omega
theorem m_andU {a b : Nat} {t2 : TypeId} (hx : S.ev x = .dv (.int .u64 (a : Int)) := by (simp only [St.look, St.ev, lk, mkM, blkOf, svOf, svOfCell, reduceIte, Nat.reduceAdd, Nat.reduceEqDiff, Nat.reduceMul] <;> rfl)) (hy : S.ev y = .dv (.int .u64 (b : Int)) := by (simp only [St.look, St.ev, lk, mkM, blkOf, svOf, svOfCell, reduceIte, Nat.reduceAdd, Nat.reduceEqDiff, Nat.reduceMul] <;> rfl)) (ha : a < 18446744073709551616 := by (first | omega | (simp only [Int.toNat_natCast, List.length_map, List.length_append, List.length_cons, List.length_nil, List.length_take, List.length_drop, List.length_set, List.length_replicate, Nat.zero_add, Nat.mul_one] <;> omega) | (simp <;> omega))) (hb : b < 18446744073709551616 := by (first | omega | (simp only [Int.toNat_natCast, List.length_map, List.length_append, List.length_cons, List.length_nil, List.length_take, List.length_drop, List.length_set, List.length_replicate, Nat.zero_add, Nat.mul_one] <;> omega) | (simp <;> omega))) : outOf P S (.binOp .and t x y t2) = some (.val (.dv (.int .u64 ((a &&& b : Nat) : Int)))) := by
  simp only [outOf, binSV, hx, hy, intBin, if_true, Option.map_some]
  have e' : ((BitVec.ofInt IntKind.u64.bits (a : Int) &&& BitVec.ofInt IntKind.u64.bits (b : Int)).toNat : Int) = ((a &&& b : Nat) : Int) := congrArg Int.ofNat (bv_and (by omega) (by omega))
  have : a &&& b ≤ a := Nat.and_le_left
  rw [e', wrap_u64' (by omega) (by omega)]
theorem m_addU {a b : Nat} {t2 : TypeId} (hx : S.ev x = .dv (.int .u64 (a : Int)) := by (simp only [St.look, St.ev, lk, mkM, blkOf, svOf, svOfCell, reduceIte, Nat.reduceAdd, Nat.reduceEqDiff, Nat.reduceMul] <;> rfl)) (hy : S.ev y = .dv (.int .u64 (b : Int)) := by (simp only [St.look, St.ev, lk, mkM, blkOf, svOf, svOfCell, reduceIte, Nat.reduceAdd, Nat.reduceEqDiff, Nat.reduceMul] <;> rfl)) (h : a + b < 18446744073709551616 := by (first | omega | (simp only [Int.toNat_natCast, List.length_map, List.length_append, List.length_cons, List.length_nil, List.length_take, List.length_drop, List.length_set, List.length_replicate, Nat.zero_add, Nat.mul_one] <;> omega) | (simp <;> omega))) : outOf P S (.binOp .add t x y t2) = some (.val (.dv (.int .u64 ((a + b : Nat) : Int)))) := by
  simp only [outOf, binSV, hx, hy, intBin, if_true, Option.map_some]
  rw [show (a : Int) + (b : Int) = ((a + b : Nat) : Int) from by omega, wrap_u64' (by omega) (by omega)]
theorem m_shrU {a b : Nat} {k : IntKind} {t2 : TypeId} (hx : S.ev x = .dv (.int .u64 (a : Int)) := by (simp only [St.look, St.ev, lk, mkM, blkOf, svOf, svOfCell, reduceIte, Nat.reduceAdd, Nat.reduceEqDiff, Nat.reduceMul] <;> rfl)) (hy : S.ev y = .dv (.int k (b : Int)) := by (simp only [St.look, St.ev, lk, mkM, blkOf, svOf, svOfCell, reduceIte, Nat.reduceAdd, Nat.reduceEqDiff, Nat.reduceMul] <;> rfl)) (hb : b ≤ 63 := by (first | omega | (simp only [Int.toNat_natCast, List.length_map, List.length_append, List.length_cons, List.length_nil, List.length_take, List.length_drop, List.length_set, List.length_replicate, Nat.zero_add, Nat.mul_one] <;> omega) | (simp <;> omega))) : outOf P S (.binOp .shr t x y t2) = some (.val (.dv (.int .u64 ((a / 2 ^ b : Nat) : Int)))) := by
  have e : min b 64 = b := by omega
  simp only [outOf, binSV, hx, hy, shiftBin]
  rw [if_neg (by omega)]
  simp only [Int.toNat_natCast, IntKind.bits, e, Option.map_some]
  have : ((a : Int).fdiv (2 ^ b)) = ((a / 2 ^ b : Nat) : Int) := by
    rw [Int.fdiv_eq_ediv_of_nonneg _ (by exact_mod_cast Nat.zero_le _)]
    push_cast
    rfl
  rw [this]
end
end Go.Ab
set_option linter.all false
set_option linter.unusedSimpArgs false
namespace Go.Ab
open Go.RowKit
section
variable {cx : Cx} {P : Program} {N : Nat} {ops : Array Oper} {rest : List Oper} {l : List (Nat × SV)} {m : List (Nat × Nat × Option Blk)} {K : St → Prop}
  {d : Nat} {ty : TypeId} {p : String} {af : Array Edge} {gd : Option (Nat × Bool)}
end
end Go.Ab
set_option linter.all false
set_option linter.unusedSimpArgs false
namespace Go.Ab
open Go.RowKit
section
variable {P : Program} {S : St} {x y : Operand} {t src dst e : TypeId} {k : IntKind}
theorem m_sIx {st : ByteArray} {i : Nat} {b : UInt8} (hs : isStrP P t = true) (hb : st.data.toList[i]? = some b)
    (hx : S.ev x = .dv (.str st) := by (simp only [St.look, St.ev, lk, mkM, blkOf, svOf, svOfCell, reduceIte, Nat.reduceAdd, Nat.reduceEqDiff, Nat.reduceMul] <;> rfl)) (hy : S.ev y = .dv (.int k (i : Int)) := by (simp only [St.look, St.ev, lk, mkM, blkOf, svOf, svOfCell, reduceIte, Nat.reduceAdd, Nat.reduceEqDiff, Nat.reduceMul] <;> rfl)) :
    outOf P S (.index t x y) = some (.val (.dv (.int .u8 b.toNat))) := by
  simp only [outOf, strIxSV, hx, hy]
  rw [if_pos ⟨hs, Int.natCast_nonneg i⟩, Int.toNat_natCast, hb]; rfl
end
section
variable {cx : Cx} {P : Program} {N : Nat} {ops : Array Oper} {rest : List Oper} {l : List (Nat × SV)} {m : List (Nat × Nat × Option Blk)} {K : St → Prop}
  {d : Nat} {ty : TypeId} {p : String} {af : Array Edge} {gd : Option (Nat × Bool)}
end
end Go.Ab
set_option linter.all false
namespace Go.Ab
open Go.RowKit
abbrev Tx := List UInt8
abbrev bs (l : Tx) : ByteArray := ⟨l.toArray⟩
theorem bs_of_data {s : ByteArray} {l : Tx} (h : s.data.toList = l) : s = bs l := by
  subst h; cases s; rfl
theorem bs_data (s : ByteArray) : bs s.data.toList = s := (bs_of_data rfl).symm
theorem bs_inj {a b : Tx} : bs a = bs b ↔ a = b := ⟨fun h => by have := congrArg (fun s : ByteArray => s.data.toList) h; simpa using this, fun h => by rw [h]⟩
theorem bs_app (a b : Tx) : (bs a ++ bs b : ByteArray) = bs (a ++ b) := bs_of_data (by simp [bs])
theorem bs_size (a : Tx) : (bs a).size = a.length := by simp [bs, ByteArray.size]
theorem bs_toList (a : Tx) : (bs a).toList = a := by rw [ByteArray.toList_eq]
theorem bs_cut (a : Tx) (i j : Nat) : (bs a).extract i j = bs ((a.take j).drop i) := bs_of_data (by simp [bs, ByteArray.data_extract, List.extract_eq_drop_take, List.drop_take])
section
variable {P : Program} {S : St} {x y : Operand} {t src dst e t2 : TypeId} {k : IntKind} {ob : Option Blk}
theorem m_cat {a b : Tx} (hx : S.ev x = .dv (.str (bs a)) := by (simp only [St.look, St.ev, lk, mkM, blkOf, svOf, svOfCell, reduceIte, Nat.reduceAdd, Nat.reduceEqDiff, Nat.reduceMul] <;> rfl)) (hy : S.ev y = .dv (.str (bs b)) := by (simp only [St.look, St.ev, lk, mkM, blkOf, svOf, svOfCell, reduceIte, Nat.reduceAdd, Nat.reduceEqDiff, Nat.reduceMul] <;> rfl)) (h : (a.length : Int) + b.length ≤ 9223372036854775807 := by (first | omega | (simp <;> omega))) :
    outOf P S (.binOp .add t x y t2) = some (.val (.dv (.str (bs (a ++ b))))) := by
  simp only [outOf, binSV, hx, hy, strBin, Option.map_some]
  rw [if_neg (by rw [bs_size, bs_size]; omega), bs_app]; rfl
theorem m_seq {a b : Tx} (hx : S.ev x = .dv (.str (bs a)) := by (simp only [St.look, St.ev, lk, mkM, blkOf, svOf, svOfCell, reduceIte, Nat.reduceAdd, Nat.reduceEqDiff, Nat.reduceMul] <;> rfl)) (hy : S.ev y = .dv (.str (bs b)) := by (simp only [St.look, St.ev, lk, mkM, blkOf, svOf, svOfCell, reduceIte, Nat.reduceAdd, Nat.reduceEqDiff, Nat.reduceMul] <;> rfl)) : outOf P S (.binOp .eql t x y t2) = some (.val (.dv (.bool (a == b)))) := by
  simp only [outOf, binSV, hx, hy, strBin, Option.map_some, bs_toList]
theorem m_sne {a b : Tx} (hx : S.ev x = .dv (.str (bs a)) := by (simp only [St.look, St.ev, lk, mkM, blkOf, svOf, svOfCell, reduceIte, Nat.reduceAdd, Nat.reduceEqDiff, Nat.reduceMul] <;> rfl)) (hy : S.ev y = .dv (.str (bs b)) := by (simp only [St.look, St.ev, lk, mkM, blkOf, svOf, svOfCell, reduceIte, Nat.reduceAdd, Nat.reduceEqDiff, Nat.reduceMul] <;> rfl)) : outOf P S (.binOp .neq t x y t2) = some (.val (.dv (.bool (!(a == b))))) := by
  simp only [outOf, binSV, hx, hy, strBin, Option.map_some, bs_toList]
theorem m_slen {a : Tx} (hl : isStrP P t = true) (hx : S.look x = (.dv (.str (bs a)), ob) := by (simp only [St.look, St.ev, lk, mkM, blkOf, svOf, svOfCell, reduceIte, Nat.reduceAdd, Nat.reduceEqDiff, Nat.reduceMul] <;> rfl)) : outOf P S (.call { callee := .builtin .len, args := #[x], argTypes := #[t] }) = some (.val (.dv (.int .i64 (a.length : Int)))) := by
  have := m_lenS (P := P) hl hx
  rwa [bs_size] at this
theorem m_sAt {a : Tx} (i : Nat) {b : UInt8} (hs : isStrP P t = true) (hb : a[i]? = some b) (hx : S.ev x = .dv (.str (bs a)) := by (simp only [St.look, St.ev, lk, mkM, blkOf, svOf, svOfCell, reduceIte, Nat.reduceAdd, Nat.reduceEqDiff, Nat.reduceMul] <;> rfl)) (hy : S.ev y = .dv (.int k (i : Int)) := by (simp only [St.look, St.ev, lk, mkM, blkOf, svOf, svOfCell, reduceIte, Nat.reduceAdd, Nat.reduceEqDiff, Nat.reduceMul] <;> rfl)) : outOf P S (.index t x y) = some (.val (.dv (.int .u8 b.toNat))) := m_sIx hs hb hx hy
theorem m_scut {a : Tx} {lo hi : Option Operand} (i j : Nat) (hs : isStrP P t = true) (hij : i ≤ j) (hj : j ≤ a.length) (hx : S.look x = (.dv (.str (bs a)), ob) := by (simp only [St.look, St.ev, lk, mkM, blkOf, svOf, svOfCell, reduceIte, Nat.reduceAdd, Nat.reduceEqDiff, Nat.reduceMul] <;> rfl))
    (ha : numOf 0 (lo.map S.ev) = some (i : Int) := by (simp only [numOf, Option.map_some, Option.map_none, St.look, St.ev, lk, mkM, blkOf, svOf, svOfCell, reduceIte, Nat.reduceAdd, Nat.reduceEqDiff, Nat.reduceMul] <;> rfl))
    (hb : numOf (bs a).size (hi.map S.ev) = some (j : Int) := by (simp only [numOf, Option.map_some, Option.map_none, bs_size, St.look, St.ev, lk, mkM, blkOf, svOf, svOfCell, reduceIte, Nat.reduceAdd, Nat.reduceEqDiff, Nat.reduceMul] <;> rfl)) :
    outOf P S (.slice t x lo hi none) = some (.val (.dv (.str (bs ((a.take j).drop i))))) := by
  rw [← bs_cut]
  exact m_cutS hs hx ha hb (by omega) (by omega) (by rw [bs_size]; omega) rfl
end
end Go.Ab
set_option linter.all false
namespace Go.Ab
open Go.RowKit
def psL : List Nat → List DV → List (Nat × SV) → List (Nat × SV)
  | p :: ps, d :: ds, l => psL ps ds ((p, .dv d) :: l)
  | _, _, l => l
theorem setPs_lk : ∀ (ps : List Nat) (x : List DV) (l : List (Nat × SV)), setPs ps x (lk l) = lk (psL ps x l)
  | [], _, _ => by simp [setPs, psL]
  | _ :: _, [], _ => by simp [setPs, psL]
  | p :: ps, d :: x, l => by simp only [setPs, psL, upd_lk]; exact setPs_lk ps x _
section
variable {cx : Cx} {P : Program} {N : Nat}
theorem roundL {ps : List Nat} {assign body : Code} {l : List (Nat × SV)} {m1 m1' m2 : List (Nat × Nat × Option Blk)} {x : List DV} (τ : List (Nat × Nat)) (m0 mem : List (Nat × Blk)) (rt : List Nat) (l0 : List (Nat × SV))
    (hP : cx.P = P := by assumption) (hn : cx.n = N := by assumption)
    (h2 : LentL τ (mkM m1) (mkB m0) m0 := by (simp [LentL, svLes, svLe, isLive, tauL, mkB, mkM, frzF, svLes_ints, svLes_self, isDvs, isDvs_map, isDvs_app, isDvs_take, isDvs_set, isDvs_repl, OwS]))
    (h3 : (τ.map (·.2)).Nodup := by decide) (h4 : τ.all (fun p => (m0.map (·.1)).contains p.1) = true := by rfl) (h5 : (m0.map (·.1)).Nodup := by (simp))
    (h6 : FLe (tauL τ) ⟨lk l, mkM m1⟩ (mkB m0) l0 := by (simp [FLe, svLes, svLe, isLive, tauL, mkB, mkM, lk]))
    (h7 : MemOk (mkM m1) τ mem rt := by (simp [MemOk, mkM, tauL])) (h8 : (mem.map (·.1)).Nodup := by (simp)) (h9 : rt.Nodup := by decide)
    (hm : setL (nvL m1) (msG (mkM m1) [] τ mem rt) = m2 := by (simp only [setL, msG, frzMs, drops, puts, renSV, renSVs, renSVs_dvs isDvs_map, rhoG, genG, stG, mkB, mkM, nvL, killV, List.map, List.nil_append, List.cons_append, List.append_nil, Option.map_some, Option.getD_some, reduceIte, Nat.reduceEqDiff, Nat.reduceAdd, Nat.reduceLeDiff] <;> rfl))
    (hle : Le cx ⟨lk l, mkM m2⟩ ⟨lk l, mkM m1'⟩)
    (k : ∀ cx' : Cx, cx'.P = P → cx'.n = N → cx'.Good → AWp cx' assign (assignK P N body (mkB mem)) ⟨lk (psL ps x l0), mkM (m0.map fun p => (p.1, 0, some p.2))⟩) :
    RoundOk cx ps assign body (lk l) (mkM m1) x (mkM m1') := by
  subst hP; subst hn
  have hf : frzF (mkM m1) [] = mkM m1 := by funext t; simp [frzF]
  have hB := backOk_list (fz := []) h7 h8 h9 (fun t _ => by simp)
  rw [hf, noViews_mkM, setM_mkM, hm] at hB
  refine ⟨tauL τ, mkB m0, lk l0, mkB mem, mkM m2, sigG mem rt, rhoG (mkM m1) mem rt, lentOk_list h2 h3 (fun p hp => ?_) h5, FLe_get h6, hB, hle, fun cx' h1 h2 h3 => ?_⟩
  · have := List.all_eq_true.1 h4 p hp
    simpa using this
  · have := k cx' h1 h2 h3
    rw [setPs_lk]
    exact this
theorem asg {body : Code} {N' : Nat → Nat × Option Blk} {S : St} (k : ∀ cx' : Cx, cx'.P = P → cx'.n = N → cx'.Good → AWp cx' body (roundK cx' N') S) : assignK P N body N' .normal S := ⟨rfl, k⟩
theorem rend {mem : List (Nat × Blk)} {S : St} (h : Le cx S ⟨lk [], mkM (mem.map fun p => (p.1, 0, some p.2))⟩) : roundK cx (mkB mem) .normal S := ⟨rfl, h⟩
theorem rgf (hg : cx.Good) (hrn : cx.rnd = none) (hdq : cx.dq = []) {fn : Func} {ds : List DV} (hfin : ∀ a w, FinR cx.P fn ds cx.w0 cx.Wr a w → cx.fin a w) (hP : cx.P = P) (hn : cx.n = N)
    {s gf : Nat} {caps : List DV} {xs : List (List DV)} (hseq : ASeq P gf caps xs) {l : List (Nat × SV)} (bs : Nat → List (Nat × Nat × Option Blk)) {S : St} (hS : Le cx S ⟨lk l, mkM (bs 0)⟩)
    {ps : Array Nat} {bid : Nat} {assign body post : Code} {K : Exit → St → Prop} 
    (round : ∀ k x, xs[k]? = some x → RoundOk cx ps.toList assign body (lk l) (mkM (bs k)) x (mkM (bs (k + 1))))
    (hpost : ∀ cx' : Cx, cx'.P = P → cx'.n = N → cx'.Good → AWp cx' post (EndS P fn.results.toList ds) ⟨lk l, mkM (bs xs.length)⟩)
    (hF : lk l s = .dv (.fn gf [] caps) := by (simp only [lk, reduceIte, Nat.reduceEqDiff])) (hps : ∀ p ∈ ps.toList, p < N := by decide) (hpx : ∀ x ∈ xs, x.length = ps.size := by (intro x hx; simp at hx; obtain ⟨k, _, rfl⟩ := hx; rfl)) :
    RfOk cx (.block bid (.rangeFunc (.tmp s) ps assign body)) post K S := by
  subst hP; subst hn
  exact awp_range hg hrn hdq hfin hseq (fun k => mkM (bs k)) hS hF hps hpx round hpost
theorem xs1 {rv : List ResultVar} {d1 : DV} {S : St} (hs : resSV P S rv = some [.dv d1] := by (simp only [resSV, lk, Option.map_some, reduceIte, Nat.reduceEqDiff] <;> rfl)) (hf : DV.frees [d1] = true := by rfl) : EndS P rv [d1] .ret S := ⟨rfl, hf, hs⟩
end
end Go.Ab
set_option linter.all false
namespace Go.Ab
open Go.RowKit
abbrev i64 (n : Int) : DV := .int .i64 n
abbrev u64 (n : Int) : DV := .int .u64 n
abbrev rowI (L : List Int) : Blk := rowK .i64 3 L
abbrev rI (L : List Int) : R1 := rK .i64 3 L
abbrev ints (l : List Int) : DV := .list (l.map (DV.int .i64))
section
variable {P : Program} {S : St} {x y : Operand} {t t2 : TypeId} {a b : Nat}
theorem m_quoN (hx : S.ev x = .dv (.int .i64 (a : Int)) := by (simp only [St.look, St.ev, lk, mkM, blkOf, svOf, svOfCell, reduceIte, Nat.reduceAdd, Nat.reduceEqDiff, Nat.reduceMul] <;> rfl)) (hy : S.ev y = .dv (.int .i64 (b : Int)) := by (simp only [St.look, St.ev, lk, mkM, blkOf, svOf, svOfCell, reduceIte, Nat.reduceAdd, Nat.reduceEqDiff, Nat.reduceMul] <;> rfl)) (hb : 0 < b := by (first | omega | (simp only [Int.toNat_natCast, List.length_map, List.length_append, List.length_cons, List.length_nil, List.length_take, List.length_drop, List.length_set, List.length_replicate, Nat.zero_add, Nat.mul_one] <;> omega) | (simp <;> omega))) (ha : a < 9223372036854775808 := by (first | omega | (simp only [Int.toNat_natCast, List.length_map, List.length_append, List.length_cons, List.length_nil, List.length_take, List.length_drop, List.length_set, List.length_replicate, Nat.zero_add, Nat.mul_one] <;> omega) | (simp <;> omega))) : outOf P S (.binOp .quo t x y t2) = some (.val (.dv (.int .i64 ((a / b : Nat) : Int)))) := by
  simp only [outOf, binSV, hx, hy, intBin, if_true, Option.map_some]
  rw [if_neg (by omega)]
  have e : (a : Int).tdiv (b : Int) = ((a / b : Nat) : Int) := by simp
  have h : a / b ≤ a := Nat.div_le_self _ _
  rw [e]
  generalize a / b = q at *
  rw [wrap_i64 (by omega) (by omega)]
  rfl
theorem m_remN (hx : S.ev x = .dv (.int .i64 (a : Int)) := by (simp only [St.look, St.ev, lk, mkM, blkOf, svOf, svOfCell, reduceIte, Nat.reduceAdd, Nat.reduceEqDiff, Nat.reduceMul] <;> rfl)) (hy : S.ev y = .dv (.int .i64 (b : Int)) := by (simp only [St.look, St.ev, lk, mkM, blkOf, svOf, svOfCell, reduceIte, Nat.reduceAdd, Nat.reduceEqDiff, Nat.reduceMul] <;> rfl)) (hb : 0 < b := by (first | omega | (simp only [Int.toNat_natCast, List.length_map, List.length_append, List.length_cons, List.length_nil, List.length_take, List.length_drop, List.length_set, List.length_replicate, Nat.zero_add, Nat.mul_one] <;> omega) | (simp <;> omega))) : outOf P S (.binOp .rem t x y t2) = some (.val (.dv (.int .i64 ((a % b : Nat) : Int)))) := by
  simp only [outOf, binSV, hx, hy, intBin, if_true, Option.map_some]
  rw [if_neg (by omega)]
  have e : (a : Int).tmod (b : Int) = ((a % b : Nat) : Int) := by rw [Int.tmod_eq_emod_of_nonneg (by omega)]; simp
  rw [e]
  rfl
theorem m_mulN (hx : S.ev x = .dv (.int .i64 (a : Int)) := by (simp only [St.look, St.ev, lk, mkM, blkOf, svOf, svOfCell, reduceIte, Nat.reduceAdd, Nat.reduceEqDiff, Nat.reduceMul] <;> rfl)) (hy : S.ev y = .dv (.int .i64 (b : Int)) := by (simp only [St.look, St.ev, lk, mkM, blkOf, svOf, svOfCell, reduceIte, Nat.reduceAdd, Nat.reduceEqDiff, Nat.reduceMul] <;> rfl)) (ha : a * b < 9223372036854775808 := by (first | omega | (simp only [Int.toNat_natCast, List.length_map, List.length_append, List.length_cons, List.length_nil, List.length_take, List.length_drop, List.length_set, List.length_replicate, Nat.zero_add, Nat.mul_one] <;> omega) | (simp <;> omega))) : outOf P S (.binOp .mul t x y t2) = some (.val (.dv (.int .i64 ((a * b : Nat) : Int)))) := by
  simp only [outOf, binSV, hx, hy, intBin, if_true, Option.map_some]
  rw [← Int.natCast_mul, wrap_i64 (by omega) (by omega)]
theorem m_addN (hx : S.ev x = .dv (.int .i64 (a : Int)) := by (simp only [St.look, St.ev, lk, mkM, blkOf, svOf, svOfCell, reduceIte, Nat.reduceAdd, Nat.reduceEqDiff, Nat.reduceMul] <;> rfl)) (hy : S.ev y = .dv (.int .i64 (b : Int)) := by (simp only [St.look, St.ev, lk, mkM, blkOf, svOf, svOfCell, reduceIte, Nat.reduceAdd, Nat.reduceEqDiff, Nat.reduceMul] <;> rfl)) (ha : a + b < 9223372036854775808 := by (first | omega | (simp only [Int.toNat_natCast, List.length_map, List.length_append, List.length_cons, List.length_nil, List.length_take, List.length_drop, List.length_set, List.length_replicate, Nat.zero_add, Nat.mul_one] <;> omega) | (simp <;> omega))) : outOf P S (.binOp .add t x y t2) = some (.val (.dv (.int .i64 ((a + b : Nat) : Int)))) := by
  simp only [outOf, binSV, hx, hy, intBin, if_true, Option.map_some]
  rw [← Int.natCast_add, wrap_i64 (by omega) (by omega)]
theorem m_cnvU {k k' : IntKind} (h1 : kindP P t = some k) (h2 : kindP P t2 = some .u64) (hx : S.ev x = .dv (.int k' (a : Int)) := by (simp only [St.look, St.ev, lk, mkM, blkOf, svOf, svOfCell, reduceIte, Nat.reduceAdd, Nat.reduceEqDiff, Nat.reduceMul] <;> rfl)) (ha : a < 18446744073709551616 := by (first | omega | (simp only [Int.toNat_natCast, List.length_map, List.length_append, List.length_cons, List.length_nil, List.length_take, List.length_drop, List.length_set, List.length_replicate, Nat.zero_add, Nat.mul_one] <;> omega) | (simp <;> omega))) : outOf P S (.convert t t2 x) = some (.val (.dv (.int .u64 (a : Int)))) :=
  m_cnv h1 h2 hx (by rw [wrap_u64' (by omega) (by omega)])
theorem m_cnvI {k k' : IntKind} (h1 : kindP P t = some k) (h2 : kindP P t2 = some .i64) (hx : S.ev x = .dv (.int k' (a : Int)) := by (simp only [St.look, St.ev, lk, mkM, blkOf, svOf, svOfCell, reduceIte, Nat.reduceAdd, Nat.reduceEqDiff, Nat.reduceMul] <;> rfl)) (ha : a < 9223372036854775808 := by (first | omega | (simp only [Int.toNat_natCast, List.length_map, List.length_append, List.length_cons, List.length_nil, List.length_take, List.length_drop, List.length_set, List.length_replicate, Nat.zero_add, Nat.mul_one] <;> omega) | (simp <;> omega))) : outOf P S (.convert t t2 x) = some (.val (.dv (.int .i64 (a : Int)))) :=
  m_cnv h1 h2 hx (by rw [wrap_i64 (by omega) (by omega)])
theorem m_subN {z u : Int} (c : Nat) (hx : S.ev x = .dv (.int .i64 z) := by (simp only [St.look, St.ev, lk, mkM, blkOf, svOf, svOfCell, reduceIte, Nat.reduceAdd, Nat.reduceEqDiff, Nat.reduceMul] <;> rfl)) (hy : S.ev y = .dv (.int .i64 u) := by (simp only [St.look, St.ev, lk, mkM, blkOf, svOf, svOfCell, reduceIte, Nat.reduceAdd, Nat.reduceEqDiff, Nat.reduceMul] <;> rfl)) (hc : z - u = (c : Int) := by (first | omega | (simp only [Int.toNat_natCast, List.length_map, List.length_append, List.length_cons, List.length_nil, List.length_take, List.length_drop, List.length_set, List.length_replicate, Nat.zero_add, Nat.mul_one] <;> omega) | (simp <;> omega))) (h1 : c < 9223372036854775808 := by (first | omega | (simp only [Int.toNat_natCast, List.length_map, List.length_append, List.length_cons, List.length_nil, List.length_take, List.length_drop, List.length_set, List.length_replicate, Nat.zero_add, Nat.mul_one] <;> omega) | (simp <;> omega))) : outOf P S (.binOp .sub t x y t2) = some (.val (.dv (.int .i64 (c : Int)))) := by
  simp only [outOf, binSV, hx, hy, intBin, if_true, Option.map_some]
  rw [hc, wrap_i64 (by omega) (by omega)]
end
end Go.Ab
