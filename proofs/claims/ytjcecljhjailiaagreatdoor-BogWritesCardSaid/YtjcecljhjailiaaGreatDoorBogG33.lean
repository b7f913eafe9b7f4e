/- BogPa, BogPb, Ab51. -/
import Derived.Test.YtjcecljhjailiaaGreatDoorBogG31
import Derived.Test.YtjcecljhjailiaaGreatDoorBogG15
import Derived.Test.YtjcecljhjailiaaGreatDoorBogG32
import Derived.Maps.OwnSet
import Derived.Test.YtjcecljhjailiaaGreatDoorBogG26
import Derived.Test.YtjcecljhjailiaaGreatDoorBogG31
import Derived.Test.YtjcecljhjailiaaGreatDoorBogG09
import Derived.Test.YtjcecljhjailiaaGreatDoorBogG13
set_option linter.all false
namespace Go.Ab
open Go.RowKit
section
variable {cx : Cx} {ops : Array Oper} {Q : Exit → Act → World → Prop} {rest : List Oper} {o : Oper} {a : Act} {w w' : World} {v : Value} {n : Nat}
theorem wlv (hg : o.guard = none) (hnd : ∀ c, o.op ≠ .defer c) (hr : (execOp a.eval o).run cx.P w = .ok (.value v) w') (k : wpListIn cx.fence n cx.P ops Q rest (a.put o.dst v) w') : wpListIn cx.fence n cx.P ops Q (o :: rest) a w := by
  unfold wpListIn
  rw [if_pos (by simp [Region.wanted, hg])]
  refine ⟨fun _ _ => trivial, ?_⟩
  rw [Oper.semAt_eq _ _ _ hnd, hr]
  exact k
theorem wls (hg : o.guard = none) (hnd : ∀ c, o.op ≠ .defer c) (hr : (execOp a.eval o).run cx.P w = .ok .skip w') (k : wpListIn cx.fence n cx.P ops Q rest (a.put o.dst undef) w') : wpListIn cx.fence n cx.P ops Q (o :: rest) a w := by
  unfold wpListIn
  rw [if_pos (by simp [Region.wanted, hg])]
  refine ⟨fun _ _ => trivial, ?_⟩
  rw [Oper.semAt_eq _ _ _ hnd, hr]
  exact k
theorem ev_same {d : Nat} (h : d < a.tmps.size) : (a.put (some d) v).eval (.tmp d) = v := by simp [Act.put, Act.eval, h]
theorem ev_ne {d t : Nat} (h : t ≠ d) : (a.put (some d) v).eval (.tmp t) = a.eval (.tmp t) := by
  simp [Act.put, Act.eval, Array.getElem?_setIfInBounds_ne (Ne.symm h)]
theorem put_size {d : Option Nat} : (a.put d v).tmps.size = a.tmps.size := by cases d <;> simp [Act.put]
theorem put_none : a.put none v = a := rfl
end
end Go.Ab
namespace Go.Ab.Tryz
open Go Go.Ab Go.Proofs Go.RowKit Go.Ab.Bog Go.Maps
abbrev fD (k c : Int) : DataW Unit := .agg [.lit (.int .i64 k), .lit (.int .i64 c)]
def formR : Value → Option (DataW Unit × List MemPlace)
  | .agg a => match a.toList with
    | [.int .i64 k, .int .i64 c] => some (fD k c, [])
    | _ => none
  | _ => none
theorem formR_mk (k c : Int) : formR (.agg #[.int .i64 k, .int .i64 c]) = some (fD k c, []) := rfl
theorem formR_inv {v : Value} {k c : Int} {ps : List MemPlace} (h : formR v = some (fD k c, ps)) : v = .agg #[.int .i64 k, .int .i64 c] := by
  unfold formR at h
  split at h
  · rename_i a
    split at h
    · rename_i k' c' e
      simp only [Option.some.injEq, Prod.mk.injEq, DataW.agg.injEq, List.cons.injEq, DataW.lit.injEq, Lit.int.injEq, and_true, true_and] at h
      obtain ⟨⟨rfl, rfl⟩, _⟩ := h
      congr 1
      exact Array.ext' (by rw [e])
    · cases h
  · cases h
abbrev kL (T : Tx) : Lit := .string T
theorem kL_key (T : Tx) : WideAt.IsKeyLit (kL T) := by first | exact trivial | exact ⟨_, rfl⟩ | simp [WideAt.IsKeyLit]
theorem kL_ne {a b : Tx} (h : a ≠ b) : kL a ≠ kL b := fun e => h (by injection e)
def fmD : DataW Unit := (((((DataW.map []).put (kL wDay) (fD 0 0)).put (kL wCut) (fD 1 1)).put (kL wLoad) (fD 2 2)).put (kL wWet) (fD 3 2)).put (kL wShut) (fD 4 0)
theorem im0 : IsMap (DataW.map [] : DataW Unit) := isMap_empty
theorem fm_look (w : Tx) : Maps.has fmD (kL w) = (kindW w).isSome ∧ fmD.atKey (kL w) (fD 0 0) = fD (((kindW w).getD (0, 0)).1 : Nat) (((kindW w).getD (0, 0)).2 : Nat) := by
  unfold fmD kindW
  by_cases h5 : w = wShut
  · subst h5
    rw [has_put_same ((((im0.put _ _).put _ _).put _ _).put _ _) (kL_key _), atKey_put_same ((((im0.put _ _).put _ _).put _ _).put _ _) (kL_key _)]
    exact ⟨rfl, rfl⟩
  · rw [has_put_other (kL_ne h5), atKey_put_other (kL_ne h5)]
    by_cases h4 : w = wWet
    · subst h4
      rw [has_put_same (((im0.put _ _).put _ _).put _ _) (kL_key _), atKey_put_same (((im0.put _ _).put _ _).put _ _) (kL_key _)]
      exact ⟨rfl, rfl⟩
    · rw [has_put_other (kL_ne h4), atKey_put_other (kL_ne h4)]
      by_cases h3 : w = wLoad
      · subst h3
        rw [has_put_same ((im0.put _ _).put _ _) (kL_key _), atKey_put_same ((im0.put _ _).put _ _) (kL_key _)]
        exact ⟨rfl, rfl⟩
      · rw [has_put_other (kL_ne h3), atKey_put_other (kL_ne h3)]
        by_cases h2 : w = wCut
        · subst h2
          rw [has_put_same (im0.put _ _) (kL_key _), atKey_put_same (im0.put _ _) (kL_key _)]
          exact ⟨rfl, rfl⟩
        · rw [has_put_other (kL_ne h2), atKey_put_other (kL_ne h2)]
          by_cases h1 : w = wDay
          · subst h1
            rw [has_put_same im0 (kL_key _), atKey_put_same im0 (kL_key _)]
            exact ⟨rfl, rfl⟩
          · rw [has_put_other (kL_ne h1), atKey_put_other (kL_ne h1), if_neg h1, if_neg h2, if_neg h3, if_neg h4, if_neg h5]
            exact ⟨rfl, rfl⟩
theorem key_tx {T : Tx} (h : T.length < 1000000) : keyOf Tryz.prog 9 (.string (bs T)) = some (kL T) := by
  have := WideMaps.keyOf_string_mk (P := Tryz.prog) Tryz.underlying9 (s := bs T) (by rw [bs_size]; unfold maxLen; omega)
  exact this
theorem bld190 (k c : Int) (w : World) : (Instr.build 190 #[(0, .int .i64 k), (1, .int .i64 c)]).run Tryz.prog w = .ok (.agg #[.int .i64 k, .int .i64 c]) w := by kernel_rfl
theorem zero190 (w : World) : (zeroValue 190).run Tryz.prog w = .ok (.agg #[.int .i64 0, .int .i64 0]) w := Tryz.zeroValue190 w
abbrev kfD (w : Tx) : DV := .agg [.int .i64 (((kindW w).getD (0, 0)).1 : Nat), .int .i64 (((kindW w).getD (0, 0)).2 : Nat)]
section
variable {a : Act} {d : Option Nat} {ty : TypeId} {p : String} {af : Array Edge} {gd : Option (Nat × Bool)} {w w' : World} {b j : Nat} {x y : Operand} {v : Value}
theorem x_bldP {P : Program} {v0 v1 u : Value} (h : (Instr.build 190 #[(0, v0), (1, v1)]).run P w = .ok u w) : (execOp a.eval ⟨d, .build 190 #[(0, .const v0), (1, .const v1)], ty, p, af, gd⟩).run P w = .ok (.value u) w := by
  unfold execOp
  simp only [Sem.run_bind, List.map_toArray, List.map_cons, List.map_nil, Act.eval]
  rw [h]; rfl
theorem x_bld {k c : Int} : (execOp a.eval ⟨d, .build 190 #[(0, .const (.int .i64 k)), (1, .const (.int .i64 c))], ty, p, af, gd⟩).run Tryz.prog w = .ok (.value (.agg #[.int .i64 k, .int .i64 c])) w := x_bldP (bld190 k c w)
theorem x_ins {key val : Value} (h1 : a.eval (.tmp 15) = .map (some b)) (h2 : a.eval (.tmp j) = val) (r : (Instr.mapUpdate 192 (.map (some b)) key val).run Tryz.prog w = .ok () w') : (execOp a.eval ⟨d, .insert 192 (.tmp 15) (.const key) (.tmp j), ty, p, af, gd⟩).run Tryz.prog w = .ok .skip w' := by
  show (do Instr.mapUpdate 192 (a.eval (.tmp 15)) key (a.eval (.tmp j)); pure Next.skip : Sem Next).run Tryz.prog w = _
  simp only [Sem.run_bind, h1, h2, r, Result.andThen_ok, Sem.run_pure]
theorem x_mv {o : Op} {P : Program} (h : o = .move x ∨ o = .assign x) (hx : a.eval x = v) : (execOp a.eval ⟨d, o, ty, p, af, gd⟩).run P w = .ok (.value v) w := by
  subst hx
  rcases h with rfl | rfl <;> rfl
theorem x_ix {ad : Addr} {n cap : Nat} (hx : a.eval x = .slice (some ad) n cap) (hn : 0 < n) : (execOp a.eval ⟨d, .indexAddr 30 x (.const (.int .i64 0)), ty, p, af, gd⟩).run Tryz.prog w = .ok (.value (.pointer (some ad))) w := by
  show (do pure (Next.value (← Instr.indexAt 30 (a.eval x) (.int .i64 0))) : Sem Next).run Tryz.prog w = _
  rw [hx]
  simp only [Sem.run_bind, index_run el30 sz9 ad n cap .i64 0 (by omega) (by simpa using hn), Result.andThen_ok, Sem.run_pure]
  rfl
theorem x_ld {b o : Nat} {u : Value} (hx : a.eval x = .pointer (some ⟨b, o, none⟩)) (hc : w.cell? ⟨b, o, none⟩ = some u) : (execOp a.eval ⟨d, .load 9 x, ty, p, af, gd⟩).run Tryz.prog w = .ok (.value u) w := by
  show (do pure (Next.value (← Instr.loadAt 9 (a.eval x))) : Sem Next).run Tryz.prog w = _
  rw [hx]
  simp only [Sem.run_bind, load_cell_run ag9 b o w u hc, Result.andThen_ok, Sem.run_pure]
theorem x_lk {mp key u : Value} (h1 : a.eval x = mp) (h2 : a.eval y = key) (r : (Instr.lookup 192 mp key true).run Tryz.prog w = .ok u w) : (execOp a.eval ⟨d, .lookup 192 x y true, ty, p, af, gd⟩).run Tryz.prog w = .ok (.value u) w := by
  show (do pure (Next.value (← Instr.lookup 192 (a.eval x) (a.eval y) true)) : Sem Next).run Tryz.prog w = _
  simp only [Sem.run_bind, h1, h2, r, Result.andThen_ok, Sem.run_pure]
end
set_option maxHeartbeats 1000000 in
theorem rgMap {cx : Cx} {rest : List Oper} {K : Exit → St → Prop} {l : List (Nat × SV)} {m : List (Nat × Nat × Option Blk)} {ws : List Tx} {wd : Tx} {id : Nat}
    {t1 t2 t3 t4 t5 t6 t7 t8 t9 t10 t11 t12 t13 t14 t15 t16 t17 : TypeId} {p1 p2 p3 p4 p5 p6 p7 p8 p9 p10 p11 p12 p13 p14 p15 p16 p17 : String} {a1 a2 a3 a4 a5 a6 a7 a8 a9 a10 a11 a12 a13 a14 a15 a16 a17 : Array Edge}
    (hlo : True) (h4 : lk l 4 = .dv (.list (ws.map dTx))) (h0 : ws[0]? = some wd) (hw : wd.length < 1000000) (hg : cx.Good) (hP : cx.P = Tryz.prog) (hn : cx.n = 84)
    (k : Chain cx (⟨some 15, .makeMap 192 none, t1, p1, a1, none⟩ :: ⟨some 16, .build 190 #[(0, .const (.int .i64 0)), (1, .const (.int .i64 0))], t2, p2, a2, none⟩ :: ⟨none, .insert 192 (.tmp 15) (.const (.string ⟨#[100, 97, 121]⟩)) (.tmp 16), t3, p3, a3, none⟩ ::
      ⟨some 17, .build 190 #[(0, .const (.int .i64 1)), (1, .const (.int .i64 1))], t4, p4, a4, none⟩ :: ⟨none, .insert 192 (.tmp 15) (.const (.string ⟨#[99, 117, 116]⟩)) (.tmp 17), t5, p5, a5, none⟩ ::
      ⟨some 18, .build 190 #[(0, .const (.int .i64 2)), (1, .const (.int .i64 2))], t6, p6, a6, none⟩ :: ⟨none, .insert 192 (.tmp 15) (.const (.string ⟨#[108, 111, 97, 100]⟩)) (.tmp 18), t7, p7, a7, none⟩ ::
      ⟨some 19, .build 190 #[(0, .const (.int .i64 3)), (1, .const (.int .i64 2))], t8, p8, a8, none⟩ :: ⟨none, .insert 192 (.tmp 15) (.const (.string ⟨#[119, 101, 116]⟩)) (.tmp 19), t9, p9, a9, none⟩ ::
      ⟨some 20, .build 190 #[(0, .const (.int .i64 4)), (1, .const (.int .i64 0))], t10, p10, a10, none⟩ :: ⟨none, .insert 192 (.tmp 15) (.const (.string ⟨#[115, 104, 117, 116]⟩)) (.tmp 20), t11, p11, a11, none⟩ ::
      ⟨some 21, .move (.tmp 15), t12, p12, a12, none⟩ :: ⟨some 22, .move (.tmp 4), t13, p13, a13, none⟩ :: ⟨some 23, .indexAddr 30 (.tmp 22) (.const (.int .i64 0)), t14, p14, a14, none⟩ :: ⟨some 24, .load 9 (.tmp 23), t15, p15, a15, none⟩ ::
      ⟨some 25, .lookup 192 (.tmp 21) (.tmp 24) true, t16, p16, a16, none⟩ :: ⟨some 14, .move (.tmp 25), t17, p17, a17, none⟩ :: rest).toArray rest ⟨lk ((14, .tup [.dv (kfD wd), .dv (.bool (kindW wd).isSome)]) :: (25, .dead) :: (24, .dead) :: (23, .dead) :: (22, .dead) :: (21, .dead) :: (20, .dead) :: (19, .dead) :: (18, .dead) :: (17, .dead) :: (16, .dead) :: (15, .dead) :: l), mkM m⟩ fun S' => K .normal S') :
    AWp cx (.region id (⟨some 15, .makeMap 192 none, t1, p1, a1, none⟩ :: ⟨some 16, .build 190 #[(0, .const (.int .i64 0)), (1, .const (.int .i64 0))], t2, p2, a2, none⟩ :: ⟨none, .insert 192 (.tmp 15) (.const (.string ⟨#[100, 97, 121]⟩)) (.tmp 16), t3, p3, a3, none⟩ ::
      ⟨some 17, .build 190 #[(0, .const (.int .i64 1)), (1, .const (.int .i64 1))], t4, p4, a4, none⟩ :: ⟨none, .insert 192 (.tmp 15) (.const (.string ⟨#[99, 117, 116]⟩)) (.tmp 17), t5, p5, a5, none⟩ ::
      ⟨some 18, .build 190 #[(0, .const (.int .i64 2)), (1, .const (.int .i64 2))], t6, p6, a6, none⟩ :: ⟨none, .insert 192 (.tmp 15) (.const (.string ⟨#[108, 111, 97, 100]⟩)) (.tmp 18), t7, p7, a7, none⟩ ::
      ⟨some 19, .build 190 #[(0, .const (.int .i64 3)), (1, .const (.int .i64 2))], t8, p8, a8, none⟩ :: ⟨none, .insert 192 (.tmp 15) (.const (.string ⟨#[119, 101, 116]⟩)) (.tmp 19), t9, p9, a9, none⟩ ::
      ⟨some 20, .build 190 #[(0, .const (.int .i64 4)), (1, .const (.int .i64 0))], t10, p10, a10, none⟩ :: ⟨none, .insert 192 (.tmp 15) (.const (.string ⟨#[115, 104, 117, 116]⟩)) (.tmp 20), t11, p11, a11, none⟩ ::
      ⟨some 21, .move (.tmp 15), t12, p12, a12, none⟩ :: ⟨some 22, .move (.tmp 4), t13, p13, a13, none⟩ :: ⟨some 23, .indexAddr 30 (.tmp 22) (.const (.int .i64 0)), t14, p14, a14, none⟩ :: ⟨some 24, .load 9 (.tmp 23), t15, p15, a15, none⟩ ::
      ⟨some 25, .lookup 192 (.tmp 21) (.tmp 24) true, t16, p16, a16, none⟩ :: ⟨some 14, .move (.tmp 25), t17, p17, a17, none⟩ :: rest).toArray false) K ⟨lk l, mkM m⟩ := by
  intro a w hs
  refine wpIn_region_list ?_
  obtain ⟨μ, h⟩ := hs
  have hsz : a.tmps.size = 84 := by rw [h.size, hn]
  have hslot := h.slot 4
  have hslot' : RepD w (XX cx (mkM m) μ) (.list (ws.map dTx)) (a.tmps.getD 4 undef) := by
    rw [show (⟨lk l, mkM m⟩ : St).F 4 = .dv (.list (ws.map dTx)) from h4] at hslot
    simpa only [SVRep] using hslot
  have ht := Tryz.underlying192
  have K9 := string_keyed (P := Tryz.prog) Tryz.underlying9
  have eP : cx.P = Tryz.prog := hP
  have nd : ∀ {o : Op}, (∀ c, o ≠ .defer c) → ∀ c, o ≠ .defer c := fun h => h
  -- the map is made and filled
  have hm0 := World.ownsMap_made w Tryz.prog 9 formR
  obtain ⟨w1, r1, m1, g1⟩ := hm0.update K9 ht (by unfold maxLen; omega) (key_tx (T := wDay) (by decide)) (formR_mk 0 0)
  obtain ⟨w2, r2, m2, g2⟩ := m1.update K9 ht (by unfold maxLen; omega) (key_tx (T := wCut) (by decide)) (formR_mk 1 1)
  obtain ⟨w3, r3, m3, g3⟩ := m2.update K9 ht (by unfold maxLen; omega) (key_tx (T := wLoad) (by decide)) (formR_mk 2 2)
  obtain ⟨w4, r4, m4, g4⟩ := m3.update K9 ht (by unfold maxLen; omega) (key_tx (T := wWet) (by decide)) (formR_mk 3 2)
  obtain ⟨w5, r5, m5, g5⟩ := m4.update K9 ht (by unfold maxLen; omega) (key_tx (T := wShut) (by decide)) (formR_mk 4 0)
  have hb : Below w.heap.size w w5 := by
    have b0 := (Below.refl w.heap.size w).alloc (Nat.le_refl _) (.map #[] 0)
    have hk : ∀ k, some w.heap.size = some k → w.heap.size ≤ k := fun k e => by cases e; exact Nat.le_refl _
    have b1 := b0.grown g1 b0.size hk
    have b2 := b1.grown g2 b1.size hk
    have b3 := b2.grown g3 b2.size hk
    have b4 := b3.grown g4 b3.size hk
    exact b4.grown g5 b4.size hk
  obtain ⟨v, ps, rl, hv⟩ := m5.look_ok K9 ht (zero190 w5) (formR_mk 0 0) (key_tx hw)
  obtain ⟨lk1, lk2⟩ := fm_look wd
  have hv2 : v = .agg #[.int .i64 (((kindW wd).getD (0, 0)).1 : Nat), .int .i64 (((kindW wd).getD (0, 0)).2 : Nat)] := by
    refine formR_inv (ps := ps) ?_
    rw [hv]
    exact congrArg (fun d => some (d, ps)) lk2
  have hok : Maps.has fmD (kL wd) = (kindW wd).isSome := lk1
  -- the word
  generalize hx : a.tmps.getD 4 undef = x4 at hslot'
  have hf : flat (ws.map dTx) = ws.map dTx := flat_one fun _ => rfl
  have hlen : 0 < ws.length := (List.getElem?_eq_some_iff.1 h0).1
  obtain ⟨b4, o4, c4, rfl, hcell⟩ : ∃ (b o cap : Nat), x4 = .slice (some ⟨b, o, none⟩) ws.length cap ∧ w5.cell? ⟨b, o, none⟩ = some (.string (bs wd)) := by
    generalize hD : ws.map dTx = D at hslot'
    cases hslot' with
    | listNil ao cap =>
      have : ws = [] := by
        cases ws with
        | nil => rfl
        | cons q l => simp at hD
      subst this; simp at hlen
    | list _ b off cap esz u q1 q2 q3 q4 q5 q6 =>
      have e0 : (flat D)[0]? = some (dTx wd) := by rw [← hD, hf]; simp [h0]
      have e1 := q5 0 _ e0
      have e2 := rep_str (q6 0 _ e0)
      refine ⟨b, off, cap, by rw [← hD]; simp, ?_⟩
      rw [hb.cell (p := ⟨b, off, none⟩) q2]
      rw [Nat.add_zero, e2] at e1
      exact e1
  have hev4 : a.eval (.tmp 4) = .slice (some ⟨b4, o4, none⟩) ws.length c4 := hx
  show wpListIn cx.fence 0 cx.P _ _ (_ :: _) a w
  refine wlv (v := .map (some w.heap.size)) (w' := w.alloc (.map #[] 0)) rfl (fun c => by nofun) (by rw [eP]; rfl) ?_
  refine wlv rfl (fun c => by nofun) (by rw [eP]; exact x_bld) ?_
  refine wls rfl (fun c => by nofun) (by rw [eP]; exact x_ins (by simp [ev_same, ev_ne, put_size, put_none, hsz]) (by simp [ev_same, ev_ne, put_size, put_none, hsz]) r1) ?_
  refine wlv rfl (fun c => by nofun) (by rw [eP]; exact x_bld) ?_
  refine wls rfl (fun c => by nofun) (by rw [eP]; exact x_ins (by simp [ev_same, ev_ne, put_size, put_none, hsz]) (by simp [ev_same, ev_ne, put_size, put_none, hsz]) r2) ?_
  refine wlv rfl (fun c => by nofun) (by rw [eP]; exact x_bld) ?_
  refine wls rfl (fun c => by nofun) (by rw [eP]; exact x_ins (by simp [ev_same, ev_ne, put_size, put_none, hsz]) (by simp [ev_same, ev_ne, put_size, put_none, hsz]) r3) ?_
  refine wlv rfl (fun c => by nofun) (by rw [eP]; exact x_bld) ?_
  refine wls rfl (fun c => by nofun) (by rw [eP]; exact x_ins (by simp [ev_same, ev_ne, put_size, put_none, hsz]) (by simp [ev_same, ev_ne, put_size, put_none, hsz]) r4) ?_
  refine wlv rfl (fun c => by nofun) (by rw [eP]; exact x_bld) ?_
  refine wls rfl (fun c => by nofun) (by rw [eP]; exact x_ins (by simp [ev_same, ev_ne, put_size, put_none, hsz]) (by simp [ev_same, ev_ne, put_size, put_none, hsz]) r5) ?_
  refine wlv (w' := w5) (v := .map (some w.heap.size)) rfl (fun c => by nofun) (x_mv (.inl rfl) (by simp [ev_same, ev_ne, put_size, put_none, hsz])) ?_
  refine wlv (w' := w5) (v := .slice (some ⟨b4, o4, none⟩) ws.length c4) rfl (fun c => by nofun) (x_mv (.inl rfl) (by simp [ev_same, ev_ne, put_size, put_none, hsz, hev4])) ?_
  refine wlv (w' := w5) (v := .pointer (some ⟨b4, o4, none⟩)) rfl (fun c => by nofun) (by rw [eP]; exact x_ix (cap := c4) (by simp [ev_same, ev_ne, put_size, put_none, hsz]) hlen) ?_
  refine wlv (w' := w5) (v := .string (bs wd)) rfl (fun c => by nofun) (by rw [eP]; exact x_ld (by simp [ev_same, ev_ne, put_size, put_none, hsz]) hcell) ?_
  refine wlv (w' := w5) (v := .tuple #[v, .bool (kindW wd).isSome]) rfl (fun c => by nofun) (by rw [eP]; exact x_lk (mp := .map (some w.heap.size)) (key := .string (bs wd)) (by simp [ev_same, ev_ne, put_size, put_none, hsz]) (by simp [ev_same, ev_ne, put_size, put_none, hsz]) (by rw [← hok]; exact rl)) ?_
  refine wlv (w' := w5) (v := .tuple #[v, .bool (kindW wd).isSome]) rfl (fun c => by nofun) (x_mv (.inl rfl) (by simp [ev_same, ev_ne, put_size, put_none, hsz])) ?_
  obtain ⟨μ', i1, _⟩ := resRep_sim h hb (Y := XX cx (mkM m) μ) (fun b hb => hb) (res := .one (.dv (.bool true))) (v := .bool true) (res_dv (.bool true)) 0
  have i2 : SimU cx ⟨lk l, mkM m⟩ a w5 μ' := i1
  have ss : ∀ {l : List (Nat × SV)} {a : Act} (d : Nat) (r : SV) (v : Value), d < cx.n → SVRep w5 (mkM m) μ' (XX cx (mkM m) μ') r v → SimU cx ⟨lk l, mkM m⟩ a w5 μ' → SimU cx ⟨lk ((d, r) :: l), mkM m⟩ (a.put (some d) v) w5 μ' := fun d r v hd hr hh => by
    have := hh.set hd (r := r) (v := v) hr
    rw [← upd_lk]; exact this
  have dd : ∀ {l : List (Nat × SV)} {a : Act} (d : Nat) (v : Value), d < 84 → SimU cx ⟨lk l, mkM m⟩ a w5 μ' → SimU cx ⟨lk ((d, .dead) :: l), mkM m⟩ (a.put (some d) v) w5 μ' := fun d v hd hh =>
    ss d .dead v (by omega) (by simp only [SVRep]) hh
  refine chain_wp hg (fun S a w h1 h2 => .inl ⟨S, h1, h2⟩) rest _ _ _ ⟨μ', ?_⟩ k
  simp only [put_none]
  refine ss 14 _ _ (by omega) ?_ (dd _ _ (by decide) (dd _ _ (by decide) (dd _ _ (by decide) (dd _ _ (by decide) (dd _ _ (by decide) (dd _ _ (by decide) (dd _ _ (by decide) (dd _ _ (by decide) (dd _ _ (by decide) (dd _ _ (by decide) (dd _ _ (by decide) i2)))))))))))
  refine ⟨[v, .bool (kindW wd).isSome], rfl, ?_⟩
  subst hv2
  refine ⟨?_, ?_, trivial⟩
  · simp only [SVRep]
    refine .agg _ _ rfl fun j c hj => ?_
    match j, hj with
    | 0, hj => cases hj; exact .int _ _
    | 1, hj => cases hj; exact .int _ _
  · simp only [SVRep]; exact .bool _
end Go.Ab.Tryz
set_option linter.all false
namespace Go.Ab.Tryz
open Go Go.Ab Go.Proofs Go.Ab.Moss Go.Ab.Bog
open Go.Ab.Heap (ata ata_get ata_set)
def errB (x : Tx) : Bool := match Lib.atoiAll x with | .ok _ => false | _ => true
theorem atoi_nil (x : Tx) : ifcNil (atoiD x).2 = some (!errB x) := by
  unfold atoiD errB
  cases Lib.atoiAll x <;> rfl
theorem atoi_bd {x : Tx} {v : Int} (h : Lib.atoiAll x = .ok v) : -9223372036854775808 ≤ v ∧ v ≤ 9223372036854775807 := by
  unfold Lib.atoiAll at h
  have key : ∀ {l : Tx} {u : Nat} , Lib.parseMag l = .ok u → u < 18446744073709551616 := fun h => Lib.parseMag_lt h
  revert h
  simp only []
  repeat' split
  all_goals (intro h; first | (cases h; omega) | (simp at h; omega) | (cases h))
theorem atoi_ok {x : Tx} (h : errB x = false) : ∃ v, Lib.atoiAll x = .ok v ∧ (atoiD x).1 = v ∧ -9223372036854775808 ≤ v ∧ v ≤ 9223372036854775807 := by
  unfold errB at h
  unfold atoiD
  cases e : Lib.atoiAll x with
  | ok v => exact ⟨v, rfl, rfl, atoi_bd e⟩
  | range => rw [e] at h; cases h
  | _ => rw [e] at h; cases h
theorem num_err {x : Tx} (h : errB x = true) : numW x = none := numW_bad fun v e => by
  unfold errB at h; rw [e] at h; cases h
def nv (w : Tx) : Nat := (numW w).getD 0
theorem nv_of {w : Tx} {v : Int} (h1 : Lib.atoiAll w = .ok v) (h2 : Lib.itoa v = w) (h3 : 0 ≤ v) (h4 : v ≤ 999) : numW w = some v.toNat ∧ ((nv w : Nat) : Int) = v := by
  have := numW_atoi h1
  rw [if_pos ⟨h2, h3, h4⟩] at this
  refine ⟨this, ?_⟩
  unfold nv; rw [this]; simp; omega
theorem nums_bad {ws : List Tx} {i : Nat} (hi : i < ws.length) (h : numW ws[i] = none) : numsW ws = none := by
  cases e : numsW ws with
  | none => rfl
  | some ns =>
    exfalso
    revert e ns
    induction ws generalizing i with
    | nil => simp at hi
    | cons w ws ih =>
      intro ns e
      obtain ⟨n, ns', h1, h2, _⟩ := numsW_cons e
      cases i with
      | zero =>
        have h' : numW w = none := h
        rw [h'] at h1; cases h1
      | succ i => exact ih (i := i) (by simpa using hi) h ns' h2
theorem nums_good : ∀ {ws : List Tx}, (∀ i (hi : i < ws.length), (numW ws[i]).isSome = true) → numsW ws = some (ws.map nv)
  | [], _ => rfl
  | w :: ws, h => by
    have h0 := h 0 (by simp)
    have ih := nums_good (ws := ws) fun i hi => h (i + 1) (by simpa using hi)
    obtain ⟨n, hn⟩ := Option.isSome_iff_exists.1 h0
    have hn' : numW w = some n := hn
    rw [numsW, hn', ih]
    simp [nv, hn']
theorem kc_le (w : Tx) : ((kindW w).getD (0, 0)).2 ≤ 2 := by
  unfold kindW
  (repeat' split) <;> decide
abbrev kc (w : Tx) : Nat × Nat := (kindW w).getD (0, 0)
section
variable {T wd : Tx} {ws : List Tx}
theorem pa_kind (hs : spW T = wd :: ws) (hk : (kindW wd).isSome = false) : parseL T = none := by
  unfold parseL
  rw [hs]
  have : kindW wd = none := by cases h : kindW wd with
    | none => rfl
    | some x => rw [h] at hk; cases hk
  simp only [this]
theorem pa_len (hs : spW T = wd :: ws) (hk : (kindW wd).isSome = true) (h : 40 < T.length ∨ ws.length ≠ (kc wd).2) : parseL T = none := by
  obtain ⟨⟨k, c⟩, hx⟩ := Option.isSome_iff_exists.1 hk
  unfold parseL
  rw [hs]
  simp only [hx]
  rw [if_pos (by simpa [kc, hx] using h)]
theorem pa_go (hs : spW T = wd :: ws) (hk : (kindW wd).isSome = true) (h1 : ¬ 40 < T.length) (h2 : ws.length = (kc wd).2) : parseL T = (numsW ws).map fun ns => ((kc wd).1, ns) := by
  obtain ⟨⟨k, c⟩, hx⟩ := Option.isSome_iff_exists.1 hk
  unfold parseL
  rw [hs]
  simp only [hx]
  rw [if_neg (by rw [kc, hx] at h2; simp at h2; omega)]
  simp [kc, hx]
theorem pa_bad (hs : spW T = wd :: ws) (hk : (kindW wd).isSome = true) (h1 : ¬ 40 < T.length) (h2 : ws.length = (kc wd).2) {i : Nat} (hi : i < ws.length) (h3 : numW ws[i] = none) : parseL T = none := by
  rw [pa_go hs hk h1 h2, nums_bad hi h3]; rfl
theorem pa_good (hs : spW T = wd :: ws) (hk : (kindW wd).isSome = true) (h1 : ¬ 40 < T.length) (h2 : ws.length = (kc wd).2) (h3 : ∀ i (hi : i < ws.length), (numW ws[i]).isSome = true) : parseL T = some ((kc wd).1, ws.map nv) := by
  rw [pa_go hs hk h1 h2, nums_good h3]; rfl
end
def nr (ws : List Tx) (i : Nat) : List Int := ns ((ws.take i).map nv)
theorem nr_zero {ws : List Tx} : nr ws 0 = [] := by simp [nr, ns]
theorem nr_len {ws : List Tx} {i : Nat} (h : i ≤ ws.length) : (nr ws i).length = i := by simp [nr, ns]; omega
theorem nr_snoc {ws : List Tx} {i : Nat} (hi : i < ws.length) {v : Int} (h : ((nv ws[i] : Nat) : Int) = v) : nr ws (i + 1) = nr ws i ++ [v] := by
  unfold nr
  rw [List.take_succ_eq_append_getElem hi, List.map_append, ← h]; simp [ns]
theorem nr_all {ws : List Tx} : nr ws ws.length = ns (ws.map nv) := by unfold nr; rw [List.take_length]
abbrev dOrd (o : Nat × List Nat) : DV := .agg [i64 (o.1 : Int), ints (ns o.2)]
abbrev ordT (T : Tx) : Nat × List Nat := (parseL T).getD (0, [])
theorem x2c {P : Program} {okd : DV → Prop} {S : St} {rv : List ResultVar} {x : Exit} {s0 s1 : SV} {d0 d1 : DV} (he : x = .normal ∨ x = .ret) (h : resSV P S rv = some [s0, s1]) (h0 : RetOk okd S.M s0 (.dv d0)) (h1 : RetOk okd S.M s1 (.dv d1)) : EndK P okd rv (.many [.dv d0, .dv d1]) x S :=
  ⟨he, [s0, s1], [.dv d0, .dv d1], h, ⟨h0, h1, trivial⟩, ra_d (by simp [AllDv1]), rfl⟩
theorem u103 : Tryz.prog.underlying 103 = some (.interface (Tryz.prog.methodsAt 103)) := by kernel_rfl
set_option maxHeartbeats 4000000 in
set_option maxRecDepth 100000 in
theorem f101 (T : Tx) (hT : T.length < 1000000) : ACallsF Tryz.prog 101 [dTx T] (.many [.dv (dOrd (ordT T)), .dv (.bool (parseL T).isSome)]) := by
  obtain ⟨wd, ws, hs⟩ : ∃ wd ws, spW T = wd :: ws := by
    cases h : spW T with
    | nil => exact absurd h (spN_ne _ _)
    | cons a b => exact ⟨a, b, rfl⟩
  have hmem : ∀ W ∈ wd :: ws, W.length ≤ T.length := fun W hW => spN_len T.length T W (by rw [show spN T.length T = spW T from rfl, hs]; exact hW)
  have hwd : wd.length < 1000000 := by have := hmem wd (by simp); omega
  have hcnt : ws.length ≤ T.length := by
    have := spN_count T.length T
    rw [show spN T.length T = spW T from rfl, hs] at this
    simpa using this
  have hkb : ((kindW wd).getD (0, 0)).2 ≤ 2 ∧ (kc wd).2 = ((kindW wd).getD (0, 0)).2 := ⟨kc_le wd, rfl⟩
  have hsp := f148 T [32] (by omega) (by decide)
  rw [spW_split, hs] at hsp
  refine callsF_of Tryz.func101 rfl rfl (by rw [Tryz.ntmps101]; simp) fun cx hP hn hg => ?_
  rw [Tryz.ntmps101] at hn
  rw [startF_lk, none_mkM]
  simp only [List.nil_append, List.append_nil, List.cons_append, zipSV, Nat.reduceAdd]
  refine awp_seq ?_
  refine rg ?_
  refine qp (m_al ze138) ?_
  refine qv m_as ?_
  show AWp cx _ _ _
  refine awp_seq ?_
  refine rg ?_
  refine qv m_mv ?_
  refine qqF (hsp) ?_
  refine qv m_as ?_
  show AWp cx _ _ _
  refine awp_seq ?_
  refine rgMap (ws := wd :: ws) (wd := wd) trivial (by rfl) rfl hwd hg hP hn ?_
  refine qv m_ext ?_
  refine qv m_ext ?_
  refine qp (m_al ze190) ?_
  refine qs (m_st sz190) ?_
  refine qv m_as ?_
  show AWp cx _ _ _
  refine awp_seq ?_
  refine awp_seq ?_
  refine rg ?_
  refine qv m_mv ?_
  refine qv m_not ?_
  refine qx m_mv (fun hg30 => ?_) (fun hg30 => ?_)
  · try simp at hg30
    refine qk ?_
    refine qk ?_
    refine qk ?_
    refine qv m_pk ?_
    refine qv m_mv ?_
    refine qk ?_
    refine qk ?_
    refine qk ?_
    refine qk ?_
    refine qk ?_
    refine qk ?_
    refine qv m_pk ?_
    show AWp cx _ _ _
    refine cdT (hb := by first | rfl | simp | simp_all) (ht := ?_)
    refine awp_seq ?_
    refine rg ?_
    refine qv (m_bld pl138 ze138) ?_
    refine qs (m_st sz138) ?_
    refine qv m_as ?_
    show AWp cx _ _ _
    refine awp_ret ?_
    rw [show ordT T = (0, []) by unfold ordT; rw [pa_kind hs (by simpa using hg30)]; rfl, show (parseL T).isSome = false by rw [pa_kind hs (by simpa using hg30)]; rfl]
    exact x2c (rv := [.cell 2 138, .tmp 3]) (s0 := .agg [.dv (i64 0), .nils]) (s1 := .dv (.bool false)) (.inr rfl) (by simp only [resSV, loadSV, St.look, St.ev, lk, mkM, blkOf, svOf, svOfCell, sz138, ag138, reduceIte, Nat.reduceEqDiff]; rfl) (.agg _ _ rfl fun j s c hs hd => by match j, hs, hd with | 0, hs, hd => cases hs; cases hd; exact .dv _ (.int _ _) | 1, hs, hd => cases hs; cases hd; exact .nils) (retOk_dv (.dv _ (.bool _)))
  · try simp at hg30
    have hk : (kindW wd).isSome = true := by simpa using hg30
    refine qv m_mv ?_
    refine qv (m_slen is9) ?_
    refine qv m_gtr ?_
    refine qv m_pk ?_
    refine qx m_mv (fun hg35 => ?_) (fun hg35 => ?_)
    · try simp at hg35
      refine qk ?_
      refine qk ?_
      refine qk ?_
      refine qk ?_
      refine qk ?_
      refine qk ?_
      refine qv m_pk ?_
      show AWp cx _ _ _
      refine cdT (hb := by first | rfl | simp | simp_all) (ht := ?_)
      refine awp_seq ?_
      refine rg ?_
      refine qv (m_bld pl138 ze138) ?_
      refine qs (m_st sz138) ?_
      refine qv m_as ?_
      show AWp cx _ _ _
      refine awp_ret ?_
      rw [show ordT T = (0, []) by unfold ordT; rw [pa_len hs hk (.inl (by omega))]; rfl, show (parseL T).isSome = false by rw [pa_len hs hk (.inl (by omega))]; rfl]
      exact x2c (rv := [.cell 2 138, .tmp 3]) (s0 := .agg [.dv (i64 0), .nils]) (s1 := .dv (.bool false)) (.inr rfl) (by simp only [resSV, loadSV, St.look, St.ev, lk, mkM, blkOf, svOf, svOfCell, sz138, ag138, reduceIte, Nat.reduceEqDiff]; rfl) (.agg _ _ rfl fun j s c hs hd => by match j, hs, hd with | 0, hs, hd => cases hs; cases hd; exact .dv _ (.int _ _) | 1, hs, hd => cases hs; cases hd; exact .nils) (retOk_dv (.dv _ (.bool _)))
    · try simp at hg35
      refine qv m_mv ?_
      first | refine qv (m_len il30) ?_ | refine qv (m_lenR il30) ?_ | refine qv (m_len0 il30) ?_
      refine qv (m_fdp fd190_1) ?_
      refine qv (m_ldp sz3 ag3) ?_
      refine qv m_add ?_
      refine qv m_neq ?_
      refine qv m_pk ?_
      show AWp cx _ _ _
      refine cd (fun hc0 => ?_) (fun hc0 => ?_)
      · try simp at hc0
        have hne : ws.length ≠ (kc wd).2 := by omega
        refine awp_seq ?_
        refine rg ?_
        refine qv (m_bld pl138 ze138) ?_
        refine qs (m_st sz138) ?_
        refine qv m_as ?_
        show AWp cx _ _ _
        refine awp_ret ?_
        rw [show ordT T = (0, []) by unfold ordT; rw [pa_len hs hk (.inr hne)]; rfl, show (parseL T).isSome = false by rw [pa_len hs hk (.inr hne)]; rfl]
        exact x2c (rv := [.cell 2 138, .tmp 3]) (s0 := .agg [.dv (i64 0), .nils]) (s1 := .dv (.bool false)) (.inr rfl) (by simp only [resSV, loadSV, St.look, St.ev, lk, mkM, blkOf, svOf, svOfCell, sz138, ag138, reduceIte, Nat.reduceEqDiff]; rfl) (.agg _ _ rfl fun j s c hs hd => by match j, hs, hd with | 0, hs, hd => cases hs; cases hd; exact .dv _ (.int _ _) | 1, hs, hd => cases hs; cases hd; exact .nils) (retOk_dv (.dv _ (.bool _)))
      · try simp at hc0
        have hlw : ws.length = (kc wd).2 := by omega
        refine awp_skip ?_
        show AWp cx _ _ _
        refine awp_seq ?_
        refine rg ?_
        refine qv (m_fdp fd190_0) ?_
        refine qv (m_ldp sz136 ag136) ?_
        refine qv (m_bld pl138 ze138) ?_
        refine qp (m_al ze138) ?_
        refine qs (m_st sz138) ?_
        show AWp cx _ _ _
        refine awp_seq ?_
        refine awp_seq ?_
        refine rg ?_
        refine qv m_mv ?_
        refine qv (m_cut (L' := ws) el30 sz9 (hL := by simp)) ?_
        refine qv (m_len il30) ?_
        refine qv m_mv ?_
        show AWp cx _ _ _
        refine awp_block ?_
        refine awp_loop (ι := Nat) (fun i => ⟨lk [(2, .pt 2 0 0), (7, .pt 7 0 0), (48, .dv (.list ((ws).map dTx))), (49, .dv (i64 ((ws.length : Int)))), (50, .dv (i64 (i : Nat)))], mkM [(2, 0, some ⟨[.dv (i64 0), .nils], 0, 138, 0, false⟩), (7, 0, some ⟨[.dv (i64 ((kc wd).1 : Int)), .sl 80 0 0 i], 0, 138, 0, false⟩), (80, 0, some (rowI (nr ws i)))]⟩) (fun i => i ≤ ws.length ∧ ∀ j (hj : j < ws.length), j < i → (numW ws[j]).isSome = true) (fun i => ws.length - i) 0 (by simp) (tl [(2, 2), (7, 7)] (hF := by simp [FLe, svLe, lk, mkM, isLive, tauL, nr_zero]) (hM := by simp [MLe, blkLe, svLe, svLes, lk, mkM, isLive, tauL, svLes_ints, svLes_self, isDvs, isDvs_map, isDvs_app, isDvs_take, isDvs_set, isDvs_repl, nr_zero])) ?_
        intro i hφ0
        refine awp_seq ?_
        refine rg ?_
        refine qv m_lss ?_
        show AWp cx _ _ _
        refine awp_seq ?_
        refine cd (fun hc1 => ?_) (fun hc1 => ?_)
        · try simp at hc1
          refine awp_skip ?_
          show AWp cx _ _ _
          refine awp_seq ?_
          refine awp_block ?_
          refine awp_seq ?_
          refine rg ?_
          have hi : i < ws.length := by omega
          have hwl : ws[i].length ≤ T.length := hmem _ (List.mem_cons_of_mem _ (List.getElem_mem hi))
          have hgi : (ws.map dTx)[i]? = some (dTx ws[i]) := by simp [hi]
          first | refine qv (m_ixN el30 sz9) ?_ | refine qv (m_ix el30 sz9) ?_
          refine qv (m_ld sz9 ag9) ?_
          refine qv m_as ?_
          show AWp cx _ _ _
          refine awp_seq ?_
          refine rg ?_
          refine qv m_mv ?_
          refine qqF (f149 ws[i] (by omega)) ?_
          refine qv m_mv ?_
          refine qv m_ext ?_
          refine qv m_ext ?_
          refine qv m_as ?_
          refine qv m_as ?_
          show AWp cx _ _ _
          refine awp_seq ?_
          refine awp_seq ?_
          refine rg ?_
          refine qv m_mv ?_
          refine q_ine u103 (atoi_nil ws[i]) ?_
          refine qx m_mv (fun hg61 => ?_) (fun hg61 => ?_)
          · try simp at hg61
            refine qk ?_
            refine qk ?_
            refine qk ?_
            refine qk ?_
            refine qv m_pk ?_
            refine qv m_mv ?_
            refine qk ?_
            refine qk ?_
            refine qv m_pk ?_
            refine qv m_mv ?_
            refine qk ?_
            refine qk ?_
            refine qv m_pk ?_
            show AWp cx _ _ _
            refine cdT (hb := by first | rfl | simp | simp_all) (ht := ?_)
            refine awp_seq ?_
            refine rg ?_
            refine qv (m_bld pl138 ze138) ?_
            refine qs (m_st sz138) ?_
            refine qv m_as ?_
            show AWp cx _ _ _
            refine awp_ret ?_
            have hbad : parseL T = none := pa_bad hs hk (by omega) hlw hi (by
              first
              | exact num_err (by simpa using hg61)
              | (rw [numW_atoi hv1, if_neg]; rintro ⟨h1, h2, h3⟩; simp_all <;> omega))
            rw [show ordT T = (0, []) by unfold ordT; rw [hbad]; rfl, show (parseL T).isSome = false by rw [hbad]; rfl]
            exact x2c (rv := [.cell 2 138, .tmp 3]) (s0 := .agg [.dv (i64 0), .nils]) (s1 := .dv (.bool false)) (.inr rfl) (by simp only [resSV, loadSV, St.look, St.ev, lk, mkM, blkOf, svOf, svOfCell, sz138, ag138, reduceIte, Nat.reduceEqDiff]; rfl) (.agg _ _ rfl fun j s c hs hd => by match j, hs, hd with | 0, hs, hd => cases hs; cases hd; exact .dv _ (.int _ _) | 1, hs, hd => cases hs; cases hd; exact .nils) (retOk_dv (.dv _ (.bool _)))
          · try simp at hg61
            obtain ⟨v, hv1, hv2, hv3, hv4⟩ := atoi_ok (x := ws[i]) (by simpa using hg61)
            rw [hv2]
            refine qv m_mv ?_
            refine qqF (f87 v hv3 hv4) ?_
            refine qv m_mv ?_
            refine qv m_sne ?_
            refine qv m_pk ?_
            refine qx m_mv (fun hg67 => ?_) (fun hg67 => ?_)
            · try simp at hg67
              refine qk ?_
              refine qk ?_
              refine qv m_pk ?_
              refine qv m_mv ?_
              refine qk ?_
              refine qk ?_
              refine qv m_pk ?_
              show AWp cx _ _ _
              refine cdT (hb := by first | rfl | simp | simp_all) (ht := ?_)
              refine awp_seq ?_
              refine rg ?_
              refine qv (m_bld pl138 ze138) ?_
              refine qs (m_st sz138) ?_
              refine qv m_as ?_
              show AWp cx _ _ _
              refine awp_ret ?_
              have hbad : parseL T = none := pa_bad hs hk (by omega) hlw hi (by
                first
                | exact num_err (by simpa using hg61)
                | (rw [numW_atoi hv1, if_neg]; rintro ⟨h1, h2, h3⟩; simp_all <;> omega))
              rw [show ordT T = (0, []) by unfold ordT; rw [hbad]; rfl, show (parseL T).isSome = false by rw [hbad]; rfl]
              exact x2c (rv := [.cell 2 138, .tmp 3]) (s0 := .agg [.dv (i64 0), .nils]) (s1 := .dv (.bool false)) (.inr rfl) (by simp only [resSV, loadSV, St.look, St.ev, lk, mkM, blkOf, svOf, svOfCell, sz138, ag138, reduceIte, Nat.reduceEqDiff]; rfl) (.agg _ _ rfl fun j s c hs hd => by match j, hs, hd with | 0, hs, hd => cases hs; cases hd; exact .dv _ (.int _ _) | 1, hs, hd => cases hs; cases hd; exact .nils) (retOk_dv (.dv _ (.bool _)))
            · try simp at hg67
              refine qv m_mv ?_
              refine qv m_lss ?_
              refine qv m_pk ?_
              refine qx m_mv (fun hg71 => ?_) (fun hg71 => ?_)
              · try simp at hg71
                refine qk ?_
                refine qk ?_
                refine qv m_pk ?_
                show AWp cx _ _ _
                refine cdT (hb := by first | rfl | simp | simp_all) (ht := ?_)
                refine awp_seq ?_
                refine rg ?_
                refine qv (m_bld pl138 ze138) ?_
                refine qs (m_st sz138) ?_
                refine qv m_as ?_
                show AWp cx _ _ _
                refine awp_ret ?_
                have hbad : parseL T = none := pa_bad hs hk (by omega) hlw hi (by
                  first
                  | exact num_err (by simpa using hg61)
                  | (rw [numW_atoi hv1, if_neg]; rintro ⟨h1, h2, h3⟩; simp_all <;> omega))
                rw [show ordT T = (0, []) by unfold ordT; rw [hbad]; rfl, show (parseL T).isSome = false by rw [hbad]; rfl]
                exact x2c (rv := [.cell 2 138, .tmp 3]) (s0 := .agg [.dv (i64 0), .nils]) (s1 := .dv (.bool false)) (.inr rfl) (by simp only [resSV, loadSV, St.look, St.ev, lk, mkM, blkOf, svOf, svOfCell, sz138, ag138, reduceIte, Nat.reduceEqDiff]; rfl) (.agg _ _ rfl fun j s c hs hd => by match j, hs, hd with | 0, hs, hd => cases hs; cases hd; exact .dv _ (.int _ _) | 1, hs, hd => cases hs; cases hd; exact .nils) (retOk_dv (.dv _ (.bool _)))
              · try simp at hg71
                refine qv m_mv ?_
                refine qv m_gtr ?_
                refine qv m_pk ?_
                show AWp cx _ _ _
                refine cd (fun hc2 => ?_) (fun hc2 => ?_)
                · try simp at hc2
                  have hbad : parseL T = none := pa_bad hs hk (by omega) hlw hi (by
                    first
                    | exact num_err (by simpa using hg61)
                    | (rw [numW_atoi hv1, if_neg]; rintro ⟨h1, h2, h3⟩; simp_all; omega))
                  refine awp_seq ?_
                  refine rg ?_
                  refine qv (m_bld pl138 ze138) ?_
                  refine qs (m_st sz138) ?_
                  refine qv m_as ?_
                  show AWp cx _ _ _
                  refine awp_ret ?_
                  have hbad : parseL T = none := pa_bad hs hk (by omega) hlw hi (by
                    first
                    | exact num_err (by simpa using hg61)
                    | (rw [numW_atoi hv1, if_neg]; rintro ⟨h1, h2, h3⟩; simp_all <;> omega))
                  rw [show ordT T = (0, []) by unfold ordT; rw [hbad]; rfl, show (parseL T).isSome = false by rw [hbad]; rfl]
                  exact x2c (rv := [.cell 2 138, .tmp 3]) (s0 := .agg [.dv (i64 0), .nils]) (s1 := .dv (.bool false)) (.inr rfl) (by simp only [resSV, loadSV, St.look, St.ev, lk, mkM, blkOf, svOf, svOfCell, sz138, ag138, reduceIte, Nat.reduceEqDiff]; rfl) (.agg _ _ rfl fun j s c hs hd => by match j, hs, hd with | 0, hs, hd => cases hs; cases hd; exact .dv _ (.int _ _) | 1, hs, hd => cases hs; cases hd; exact .nils) (retOk_dv (.dv _ (.bool _)))
                · try simp at hc2
                  have htk := nr_snoc hi (nv_of hv1 (by simpa using hg67) (by omega) (by omega)).2
                  have hnl := nr_len (ws := ws) (i := i) (by omega)
                  have hnx : i + 1 ≤ ws.length ∧ ∀ j (hj : j < ws.length), j < i + 1 → (numW ws[j]).isSome = true := by
                    refine ⟨by omega, fun j hj h => ?_⟩
                    rcases Nat.lt_or_ge j i with h1 | h1
                    · exact hφ0.2 j hj h1
                    · obtain rfl : j = i := by omega
                      rw [(nv_of hv1 (by simpa using hg67) (by omega) (by omega)).1]; rfl
                  obtain ⟨hw1, hw2⟩ := nv_of hv1 (by simpa using hg67) (by omega) (by omega)
                  refine awp_skip ?_
                  show AWp cx _ _ _
                  refine AWp.le (tl [(2, 2), (7, 7), (80, 80)] (l := [(2, .pt 2 0 0), (7, .pt 7 0 0), (10, .dv (i64 (v))), (48, .dv (.list ((ws).map dTx))), (49, .dv (i64 ((ws.length : Int)))), (50, .dv (i64 (i : Nat)))]) (m := [(2, 0, some ⟨[.dv (i64 0), .nils], 0, 138, 0, false⟩), (7, 0, some ⟨[.dv (i64 ((kc wd).1 : Int)), .sl 80 0 0 i], 0, 138, 0, false⟩), (80, 0, some (rowI (nr ws i)))])) ?_
                  refine rg ?_
                  refine qv (m_fdp fd138_1) ?_
                  first | refine qv (m_ldI sz25 ag25) ?_ | refine qv (m_ldp sz25 ag25) ?_
                  refine qv m_mv ?_
                  refine qr (m_bsl el25 ze3 sz3) ?_
                  first | refine qa0 (m_app0 el25 el25 ze3 sz3 by3) ?_ | refine qa1 (m_app1 el25 el25 ze3 sz3 by3) ?_
                  refine qv (m_fdp fd138_1) ?_
                  first | refine qs (m_stI sz25) ?_ | refine qs (m_st sz25) ?_
                  show AWp cx _ _ _
                  refine rg ?_
                  refine qv m_add ?_
                  refine qv m_mv ?_
                  exact ⟨i + 1, hnx, (by simp only; omega), (tl [(2, 2), (7, 7), (80, 80)] (hF := by simp [FLe, svLe, lk, mkM, isLive, tauL, htk]) (hM := by simp [MLe, blkLe, svLe, svLes, lk, mkM, isLive, tauL, svLes_ints, svLes_self, isDvs, isDvs_map, isDvs_app, isDvs_take, isDvs_set, isDvs_repl, htk]))⟩
        · try simp at hc1
          obtain rfl : i = ws.length := by omega
          have hgd := pa_good hs hk (by omega) hlw fun j hj => hφ0.2 j hj hj
          refine awp_exit ?_
          show AWp cx _ _ _
          refine awp_seq ?_
          refine rg ?_
          refine qv (m_ldpa sz138 ag138) ?_
          refine qs (m_st sz138) ?_
          refine qv m_as ?_
          show AWp cx _ _ _
          refine awp_ret ?_
          rw [show ordT T = ((kc wd).1, ws.map nv) by unfold ordT; rw [hgd]; rfl, show (parseL T).isSome = true by rw [hgd]; rfl]
          exact x2c (rv := [.cell 2 138, .tmp 3]) (s0 := .agg [.dv (i64 ((kc wd).1 : Int)), .sl 80 0 0 ws.length]) (s1 := .dv (.bool true)) (.inr rfl) (by simp only [resSV, loadSV, St.look, St.ev, lk, mkM, blkOf, svOf, svOfCell, sz138, ag138, reduceIte, Nat.reduceEqDiff]; rfl) (.agg _ _ rfl fun j s c hs hd => by match j, hs, hd with | 0, hs, hd => cases hs; cases hd; exact .dv _ (.int _ _) | 1, hs, hd => cases hs; cases hd; rw [← nr_all]; exact data_ints (L := nr ws ws.length) (by simp only [mkM, reduceIte, Nat.reduceEqDiff] <;> rfl) trivial (nr_len (Nat.le_refl _)) rfl rfl (fun _ => .int _ _)) (retOk_dv (.dv _ (.bool _)))
end Go.Ab.Tryz
set_option linter.all false
namespace Go.Ab
open Go.RowKit
section
variable {M M' N : Nat → Nat × Option Blk} {τ : Nat → Option Nat}
def SubM (M M' : Nat → Nat × Option Blk) : Prop := ∀ t g b, M t = (g, some b) → M' t = (g, some b)
theorem SubM.some (h : SubM M M') {t : Nat} {b : Blk} (e : (M t).2 = some b) : (M' t).2 = some b := by
  rw [h t (M t).1 b (by rw [← e])]
theorem SubM.live (h : SubM M M') {t g : Nat} (e : isLive M t g) : isLive M' t g := by
  obtain ⟨e1, e2⟩ := e
  obtain ⟨b, hb⟩ := Option.isSome_iff_exists.1 e2
  have := h t (M t).1 b (by rw [← hb])
  exact ⟨by rw [this]; exact e1, by rw [this]; rfl⟩
theorem SubM.frz (h : SubM M M') (ts : List Nat) : SubM (frzF M ts) (frzF M' ts) := by
  intro t g b e
  unfold frzF at e ⊢
  split at e
  · rename_i ht
    rw [if_pos ht]
    simp only [Prod.mk.injEq, Option.map_eq_some_iff] at e
    obtain ⟨rfl, b0, h1, rfl⟩ := e
    have := h t (M t).1 b0 (by rw [← h1])
    rw [this]; rfl
  · rename_i ht
    rw [if_neg ht]
    exact h t g b e
mutual
theorem svLe_up (h : SubM M M') : ∀ (c s : SV), svLe τ M N c s → svLe τ M' N c s
  | .dead, _, _ => by simp only [svLe]
  | .dv _, s, e => by cases s <;> simp only [svLe] at e ⊢ <;> first | exact e | exact e.weakM h
  | .nils, s, e => by cases s <;> simp only [svLe] at e ⊢
  | .emp _, s, e => by cases s <;> simp only [svLe] at e ⊢ <;> exact e
  | .sl _ _ _ _, s, e => by cases s <;> simp only [svLe] at e ⊢ <;> first | exact e | exact ⟨e.1, h.live e.2.1, e.2.2⟩
  | .pt _ _ _, s, e => by cases s <;> simp only [svLe] at e ⊢ <;> exact ⟨e.1, h.live e.2.1, e.2.2⟩
  | .agg cs, s, e => by
    cases s with
    | agg ds => simp only [svLe] at e ⊢; exact svLes_up h cs ds e
    | dv d => cases d <;> simp only [svLe] at e ⊢ <;> exact e
    | _ => simp only [svLe] at e
  | .tup cs, s, e => by
    cases s with
    | tup ds => simp only [svLe] at e ⊢; exact svLes_up h cs ds e
    | _ => simp only [svLe] at e
theorem svLes_up (h : SubM M M') : ∀ (cs ss : List SV), svLes τ M N cs ss → svLes τ M' N cs ss
  | [], [], _ => by simp only [svLes]
  | c :: cs, s :: ss, e => by simp only [svLes] at e ⊢; exact ⟨svLe_up h c s e.1, svLes_up h cs ss e.2⟩
  | [], _ :: _, e => by simp only [svLes] at e
  | _ :: _, [], e => by simp only [svLes] at e
end
end
section
variable {M M' : Nat → Nat × Option Blk} {τ : List (Nat × Nat)}
theorem lentL_up (h : SubM M M') {M0 : Nat → Nat × Option Blk} : ∀ {m0 : List (Nat × Blk)}, LentL τ M M0 m0 → LentL τ M' M0 m0
  | [], _ => trivial
  | (t', b') :: m0, ⟨⟨q0, t, b, q1, q2, q3, q4, q5, q6, q7⟩, k⟩ => ⟨⟨q0, t, b, q1, h.some q2, q3, q4, q5, q6, svLes_up h _ _ q7⟩, lentL_up h k⟩
theorem memOk_up (h : SubM M M') : ∀ {mem : List (Nat × Blk)} {rt : List Nat}, MemOk M τ mem rt → MemOk M' τ mem rt
  | [], [], _ => trivial
  | (_, b) :: mem, t :: rt, e => by
    simp only [MemOk] at e ⊢
    refine ⟨?_, memOk_up h e.2⟩
    rcases e.1 with ⟨h3, h4, b0, h5, h6⟩ | h3
    · exact .inl ⟨h3, h4, b0, h.some h5, h6⟩
    · exact .inr h3
  | [], _ :: _, e => by simp only [MemOk] at e
  | _ :: _, [], e => by simp only [MemOk] at e
theorem frzOk_up (h : SubM M M') : ∀ {ts : List Nat}, FrzOk M ts → FrzOk M' ts
  | [], _ => trivial
  | _ :: _, ⟨⟨b, h1, h2⟩, k⟩ => ⟨⟨b, h.some h1, h2⟩, frzOk_up h k⟩
theorem gOkay_up {S T : St} (h : SubM S.M T.M) {fz : List Nat} {m0 mem : List (Nat × Blk)} {rt : List Nat} {args ss : List SV} (k : GOkay S fz τ m0 mem rt args ss) : GOkay T fz τ m0 mem rt args ss :=
  ⟨frzOk_up h k.hfz, lentL_up (h.frz fz) k.lent, k.inj, k.keys, k.nd0, svLes_up (h.frz fz) _ _ k.hargs, memOk_up h k.hmem, k.nd1, k.nd2, k.off⟩
theorem rhoG_congr : ∀ {mem : List (Nat × Blk)} {rt : List Nat}, (∀ t ∈ rt, M' t = M t) → rhoG M' mem rt = rhoG M mem rt
  | (e, b) :: mem, t :: rt, h => by
    funext i
    simp only [rhoG, rhoG_congr (mem := mem) (rt := rt) fun u hu => h u (List.mem_cons_of_mem _ hu), genG, h t (by simp)]
  | [], [], _ => rfl
  | [], _ :: _, _ => rfl
  | _ :: _, [], _ => rfl
theorem puts_congr {N : Nat → Nat × Option Blk} {ρ : Nat → Option (Nat × Nat)} : ∀ {mem : List (Nat × Blk)} {rt : List Nat}, (∀ t ∈ rt, M' t = M t) → puts M' N ρ mem rt = puts M N ρ mem rt
  | (e, b) :: mem, t :: rt, h => by
    simp only [puts, puts_congr (mem := mem) (rt := rt) fun u hu => h u (List.mem_cons_of_mem _ hu), genG, stG, h t (by simp)]
  | [], [], _ => rfl
  | [], _ :: _, _ => rfl
  | _ :: _, [], _ => rfl
theorem effG_congr {d : Nat} {S T : St} {fz : List Nat} {res : List SV} {mem : List (Nat × Blk)} {rt : List Nat} (h : ∀ t ∈ fz ++ τ.map (·.2) ++ rt, T.M t = S.M t) : effG d T fz τ res mem rt = effG d S fz τ res mem rt := by
  have h1 : ∀ t ∈ fz, T.M t = S.M t := fun t ht => h t (by simp [ht])
  have h2 : ∀ p ∈ τ, T.M p.2 = S.M p.2 := fun p hp => h p.2 (by simp only [List.mem_append, List.mem_map]; exact .inl (.inr ⟨p, hp, rfl⟩))
  have h3 : ∀ t ∈ rt, T.M t = S.M t := fun t ht => h t (by simp [ht])
  unfold effG msG
  rw [rhoG_congr h3, puts_congr h3]
  have e1 : frzMs T.M fz = frzMs S.M fz := List.map_congr_left fun t ht => by rw [h1 t ht]
  have e2 : drops T.M τ = drops S.M τ := List.map_congr_left fun p hp => by rw [h2 p hp]
  rw [e1, e2]
theorem msG_tags {fz : List Nat} {mem : List (Nat × Blk)} {rt : List Nat} : ∀ p ∈ msG M fz τ mem rt, p.1 ∈ fz ++ τ.map (·.2) ++ rt := by
  have hp : ∀ {mem : List (Nat × Blk)} {rt : List Nat} {N : Nat → Nat × Option Blk} {ρ : Nat → Option (Nat × Nat)}, ∀ p ∈ puts M N ρ mem rt, p.1 ∈ rt := by
    intro mem
    induction mem with
    | nil => intro rt N ρ p h; simp [puts] at h
    | cons x mem ih =>
      intro rt N ρ p h
      cases rt with
      | nil => simp [puts] at h
      | cons t rt =>
        simp only [puts, List.mem_append, List.mem_singleton] at h
        rcases h with h | h
        · exact List.mem_cons_of_mem _ (ih p h)
        · subst h; simp
  intro p h
  simp only [msG, List.mem_append] at h ⊢
  rcases h with (h | h) | h
  · simp only [frzMs, List.mem_map] at h
    obtain ⟨t, ht, rfl⟩ := h
    exact .inl (.inl ht)
  · simp only [drops, List.mem_map] at h
    obtain ⟨q, hq, rfl⟩ := h
    exact .inl (.inr (List.mem_map.2 ⟨q, hq, rfl⟩))
  · exact .inr (hp p h)
end
theorem subM_keys {m : List (Nat × Nat × Option Blk)} {M' : Nat → Nat × Option Blk} (h : ∀ t ∈ m.map (·.1), M' t = mkM m t) : SubM (mkM m) M' := by
  intro t g b e
  have hin : ∀ (m : List (Nat × Nat × Option Blk)), mkM m t = (g, some b) → t ∈ m.map (·.1) := by
    intro m
    induction m with
    | nil => intro e; simp [mkM] at e
    | cons p m ih =>
      obtain ⟨k, v⟩ := p
      intro e
      simp only [mkM] at e
      split at e
      · rename_i hk; subst hk; simp
      · exact List.mem_cons_of_mem _ (ih e)
  rw [h t (hin m e)]; exact e
section
variable {cx : Cx} {P : Program} {N : Nat} {ops : Array Oper} {rest : List Oper} {l : List (Nat × SV)} {m m' : List (Nat × Nat × Option Blk)} {KD : List It → St → Prop} {its : List It}
  {d f : Nat} {ty : TypeId} {p : String} {af : Array Edge} {gd : Option (Nat × Bool)} {oa : Array Operand} {ts : Array TypeId} {args res ss : List SV} {m0 mem : List (Nat × Blk)}
theorem zqG (hc : ACallsG P f args (mkB m0) ⟨res, mkB mem⟩) (fz : List Nat) (τ : List (Nat × Nat)) (rt : List Nat) {v : SV}
    (kk : DChain cx ops rest (⟨m.map (·.1) ++ (fz ++ τ.map (·.2) ++ rt), ⟨some d, v, true, msG (mkM m) fz τ mem rt⟩⟩ :: its) ⟨lk ((d, v) :: l), mkM m'⟩ KD)
    (hs : oa.toList.map (St.ev ⟨lk l, mkM m⟩) = ss := by (simp only [List.map, St.look, St.ev, lk, mkM, blkOf, svOf, svOfCell, reduceIte, Nat.reduceAdd, Nat.reduceEqDiff, Nat.reduceMul] <;> rfl)) (h1 : FrzOk (mkM m) fz := by (simp [FrzOk, mkM, OwS])) (h2 : LentL τ (frzF (mkM m) fz) (mkB m0) m0 := by (simp [LentL, svLes, svLe, isLive, tauL, mkB, mkM, frzF, svLes_ints, svLes_self, isDvs, isDvs_map, isDvs_app, isDvs_take, isDvs_set, isDvs_repl, OwS])) (h3 : (τ.map (·.2)).Nodup := by decide) (h4 : τ.all (fun p => (m0.map (·.1)).contains p.1) = true := by rfl) (h5 : (m0.map (·.1)).Nodup := by (simp))
    (h6 : svLes (tauL τ) (frzF (mkM m) fz) (mkB m0) args ss := by (simp [svLes, svLe, isLive, tauL, mkB, mkM, frzF, svLes_ints, svLes_self, isDvs, isDvs_map, isDvs_app, isDvs_take, isDvs_set, isDvs_repl, OwS])) (h7 : MemOk (mkM m) τ mem rt := by (simp [MemOk, mkM, tauL])) (h8 : (mem.map (·.1)).Nodup := by (simp)) (h9 : rt.Nodup := by decide) (h10 : ∀ t ∈ rt, t ∉ fz := by decide)
    (hv : resG (mkB mem) (rhoG (mkM m) mem rt) res = v := by (simp only [resG, renSV, renSVs, renSVs_dvs isDvs_map, rhoG, genG, stG, mkB, mkM, List.map, reduceIte, Nat.reduceEqDiff, Nat.reduceAdd, Nat.reduceLeDiff] <;> rfl)) (hm : setL (nvL m) (msG (mkM m) fz τ mem rt) = m' := by (simp only [setL, msG, frzMs, drops, puts, renSV, renSVs, renSVs_dvs isDvs_map, rhoG, genG, stG, mkB, mkM, nvL, killV, List.map, List.nil_append, List.cons_append, List.append_nil, Option.map_some, Option.getD_some, reduceIte, Nat.reduceEqDiff, Nat.reduceAdd, Nat.reduceLeDiff] <;> rfl)) (hP : cx.P = P := by assumption) (hn : cx.n = N := by assumption) (hd : d < N := by decide) (hne : m ≠ [] := by simp) (hgd : GOk ops ⟨lk l, mkM m⟩ gd := by (first | exact trivial | exact ⟨_, rfl, by (simp only [lk, reduceIte, Nat.reduceEqDiff])⟩)) :
    DChain cx ops (⟨some d, .call { callee := .value (.func f), args := oa, argTypes := ts }, ty, p, af, gd⟩ :: rest) its ⟨lk l, mkM m⟩ KD := by
  subst hP; subst hn; subst hs
  have hok : GOkay ⟨lk l, mkM m⟩ fz τ m0 mem rt args (oa.toList.map (St.ev ⟨lk l, mkM m⟩)) := ⟨h1, h2, h3, fun p hp => by
    have := List.all_eq_true.1 h4 p hp
    simpa using this, h5, h6, h7, h8, h9, h10⟩
  have he : effG d ⟨lk l, mkM m⟩ fz τ res mem rt = ⟨some d, v, true, msG (mkM m) fz τ mem rt⟩ := by unfold effG; rw [hv]
  refine ⟨⟨m.map (·.1) ++ (fz ++ τ.map (·.2) ++ rt), ⟨some d, v, true, msG (mkM m) fz τ mem rt⟩⟩, ⟨rfl, fun q hq => List.mem_append_right _ (msG_tags q hq), fun _ => ?_⟩, ?_, ?_⟩
  · cases m with
    | nil => exact absurd rfl hne
    | cons q m => simp
  · intro T t1 t2
    have hev := ev_congr t1
    have hss : oa.toList.map T.ev = oa.toList.map (St.ev ⟨lk l, mkM m⟩) := List.map_congr_left fun x hx => hev x (by simp [Op.operands, Call.operands]; exact .inr (by simpa using hx))
    have hsub : SubM (mkM m) T.M := subM_keys fun t ht => t2 t (List.mem_append_left _ ht)
    have hgT : GOk ops T gd := by
      unfold GOk at hgd ⊢
      split
      · trivial
      · rename_i j want
        obtain ⟨s, q1, q2⟩ := hgd
        exact ⟨s, q1, by rw [t1 s (looks_guard rfl q1)]; exact q2⟩
    have hokT := gOkay_up (S := ⟨lk l, mkM m⟩) (T := T) hsub hok
    rw [← hss] at hokT
    have hcg : effG d T fz τ res mem rt = ⟨some d, v, true, msG (mkM m) fz τ mem rt⟩ := by
      rw [effG_congr (S := ⟨lk l, mkM m⟩) fun t ht => t2 t (List.mem_append_right _ ht), he]
    show GStep cx ops T _ (Eff.app T ⟨some d, v, true, msG (mkM m) fz τ mem rt⟩)
    rw [← hcg]
    exact gstep_of hgT (.sem fun hg a w h => callG_does hg h rfl (pre := []) (caps := []) (args := args) rfl hokT (by simpa using hc) rfl hd)
  · have : Eff.app ⟨lk l, mkM m⟩ ⟨some d, v, true, msG (mkM m) fz τ mem rt⟩ = ⟨lk ((d, v) :: l), mkM m'⟩ := by
      rw [← he]
      simp only [effG, Eff.app, if_true, noViews_mkM, setM_mkM, upd_lk, hv, hm]
    rw [this]
    exact kk
end
end Go.Ab
