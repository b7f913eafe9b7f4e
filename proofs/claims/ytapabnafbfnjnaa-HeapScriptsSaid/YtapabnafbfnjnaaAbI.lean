/- Ab45, Ab46, Ab47. -/
import Derived.Test.YtapabnafbfnjnaaAbH
set_option linter.all false
set_option linter.all false
set_option linter.unusedSimpArgs false
namespace Go.Ab
open Go.RowKit
abbrev i64 (n : Int) : DV := .int .i64 n
abbrev rowI (L : List Int) : Blk := rowK .i64 3 L
abbrev rI (L : List Int) : R1 := rK .i64 3 L
abbrev ints (l : List Int) : DV := .list (l.map (DV.int .i64))
section
variable {F : Fence} {n : Nat} {P : Program} {Q : Exit → Act → World → Prop} {a : Act} {w : World}
def LoopIn (F : Fence) (n : Nat) (P : Program) (c : Code) (Q : Exit → Act → World → Prop) (a : Act) (w : World) : Prop :=
  ∀ (b : Frame) (k : List Item) (cs : List Frame), b.roundOf = F.round → F.fn b.fn → F.room (cs.length + 1 + n) →
    ∃ e a' w', Q e a' w' ∧ ArrivesIn (Machine.fenced P F) P (lone (b.atR a (.code c :: .inLoop c :: k)) cs w) b k cs e a' w'
theorem loopIn_start {c : Code} (h : LoopIn F n P c Q a w) : (Code.loop c).wpIn F n P Q a w := fun b k cs hro hb hr => by
  obtain ⟨e, a', w', hq, harr⟩ := h b k cs hro hb hr
  exact ⟨e, a', w', hq, .of_steps (.one (fenced_calm hb hr rfl) stepR_loop) harr⟩
theorem loopIn_round {c : Code} (h : c.wpIn F n P (Exit.then (LoopIn F n P c Q) Q) a w) : LoopIn F n P c Q a w := fun b k cs hro hb hr => by
  obtain ⟨e, a₁, w₁, hq, harr⟩ := h b (.inLoop c :: k) cs hro hb hr
  cases e with
  | normal =>
    obtain ⟨e₂, a₂, w₂, hq₂, harr₂⟩ := hq b k cs hro hb hr
    exact ⟨e₂, a₂, w₂, hq₂, .of_steps (StepsIn.trans harr (.one (fenced_calm hb hr rfl) stepR_inLoop)) harr₂⟩
  | exit id => exact ⟨_, a₁, w₁, hq, .pass (x := .inLoop c) rfl (fun _ _ => .inl (by simp)) harr⟩
  | goto l => exact ⟨_, a₁, w₁, hq, .pass (x := .inLoop c) rfl (fun _ _ => .inl (by simp)) harr⟩
  | ret => exact ⟨_, a₁, w₁, hq, .pass (x := .inLoop c) rfl (fun _ _ => .inl (by simp)) harr⟩
  | panic ch => exact ⟨_, a₁, w₁, hq, .pass (x := .inLoop c) rfl (fun _ _ => .inl (by simp)) harr⟩
  | outgrown => exact ⟨_, a₁, w₁, hq, .pass (x := .inLoop c) rfl (fun _ _ => .inl (by simp)) harr⟩
theorem stepR_scope {b : Frame} {a : Act} {k : List Item} {cs : List Frame} {w : World} {c : Code} : step P (lone (b.atR a (.code (.scope c) :: k)) cs w) = .next (lone (b.atR a (.code c :: .inScope c :: k)) cs w) :=
  step_lone_go (by simp [stepG, stepG.exec, Frame.atR])
theorem stepR_inScope {b : Frame} {a : Act} {k : List Item} {cs : List Frame} {w : World} {c : Code} : step P (lone (b.atR a (.inScope c :: k)) cs w) = .next (lone (b.atR a k) cs w) :=
  step_lone_go (by simp [stepG, stepG.exec, Frame.atR])
theorem wpIn_scope_jumps {c rest : Code} (l : Nat) (J : Act → World → Prop) (μ : Act → World → Nat) (hf : findLabel c l = some rest)
    (first : c.wpIn F n P (Exit.jump l J Q) a w)
    (pass : ∀ a w, J a w → rest.wpIn F n P (Exit.jump l (fun a' w' => J a' w' ∧ μ a' w' < μ a w) Q) a w) : (Code.scope c).wpIn F n P Q a w := by
  intro b k cs hro hb hr
  have hg : gotoIn l (.inScope c :: k) = some (.code rest :: .inScope c :: k) := by simp [gotoIn, hf]
  have leave : ∀ {m : Machine} {e : Exit} {a₁ : Act} {w₁ : World}, (∀ l', e ≠ .goto l') → ArrivesIn (Machine.fenced P F) P m b (.inScope c :: k) cs e a₁ w₁ → ArrivesIn (Machine.fenced P F) P m b k cs e a₁ w₁ := by
    intro m e a₁ w₁ hne harr
    cases e with
    | normal => exact StepsIn.trans harr (.one (fenced_calm hb hr rfl) stepR_inScope)
    | exit id =>
      have hx : exitTo id (.inScope c :: k) = exitTo id k := by simp [exitTo]
      exact ⟨fun k' hk => harr.1 k' (by rw [hx]; exact hk), fun hr' hk => harr.2 hr' (by rw [hx]; exact hk)⟩
    | goto l' => exact absurd rfl (hne l')
    | ret => exact harr
    | panic ch => exact harr
    | outgrown => exact harr
  have key : ∀ n a w, μ a w = n → J a w → ∃ e a' w', Q e a' w' ∧ ArrivesIn (Machine.fenced P F) P (lone (b.atR a (.code rest :: .inScope c :: k)) cs w) b k cs e a' w' := by
    intro n
    induction n using Nat.strongRecOn with
    | _ n ih =>
      intro a w hn hJ
      obtain ⟨e, a₁, w₁, hq, harr⟩ := pass a w hJ b (.inScope c :: k) cs hro hb hr
      by_cases hgt : ∃ l', e = .goto l'
      · obtain ⟨l', rfl⟩ := hgt
        obtain ⟨rfl, hJ', hlt⟩ := hq
        obtain ⟨e₂, a₂, w₂, hq₂, harr₂⟩ := ih _ (by omega) a₁ w₁ rfl hJ'
        exact ⟨e₂, a₂, w₂, hq₂, .of_steps (harr.1 _ hg) harr₂⟩
      · have hne : ∀ l', e ≠ .goto l' := fun l' h => hgt ⟨l', h⟩
        refine ⟨e, a₁, w₁, ?_, leave hne harr⟩
        cases e with
        | goto l' => exact absurd rfl (hne l')
        | _ => exact hq
  obtain ⟨e, a₁, w₁, hq, harr⟩ := first b (.inScope c :: k) cs hro hb hr
  have h0 : (lone (b.atR a (.code (.scope c) :: k)) cs w).fenced P F := fenced_calm hb hr rfl
  by_cases hgt : ∃ l', e = .goto l'
  · obtain ⟨l', rfl⟩ := hgt
    obtain ⟨rfl, hJ'⟩ := hq
    obtain ⟨e₂, a₂, w₂, hq₂, harr₂⟩ := key _ a₁ w₁ rfl hJ'
    exact ⟨e₂, a₂, w₂, hq₂, .of_steps (.head h0 stepR_scope (harr.1 _ hg)) harr₂⟩
  · have hne : ∀ l', e ≠ .goto l' := fun l' h => hgt ⟨l', h⟩
    refine ⟨e, a₁, w₁, ?_, .of_steps (.one h0 stepR_scope) (leave hne harr)⟩
    cases e with
    | goto l' => exact absurd rfl (hne l')
    | _ => exact hq
end
section
variable {cx : Cx} {S S0 : St}
def ALoop (cx : Cx) (c : Code) (K : Exit → St → Prop) (S : St) : Prop := ∀ a w, Sim cx S a w → LoopIn cx.fence 0 cx.P c (Post cx K) a w
def unK (cx : Cx) (c : Code) (K : Exit → St → Prop) : Exit → St → Prop
  | .normal, S => ALoop cx c K S
  | e, S => K e S
theorem awp_ul {c : Code} {K : Exit → St → Prop} (h : ALoop cx c K S) : AWp cx (.loop c) K S := fun a w hs => loopIn_start (h a w hs)
theorem ul_un {c : Code} {K : Exit → St → Prop} (hl : Le cx S S0) (h : AWp cx c (unK cx c K) S0) : ALoop cx c K S := fun a w hs => by
  refine loopIn_round (wpIn_mono (h a w (hl a w hs)) ?_)
  rintro e a' w' (⟨S', h1, h2⟩ | ⟨rfl, hf⟩)
  · cases e with
    | normal => exact h2 a' w' h1
    | _ => exact .inl ⟨S', h1, h2⟩
  · exact .inr ⟨rfl, hf⟩
def jumpK (cx : Cx) {ι : Type} (l : Nat) (inv : ι → St) (φ : ι → Prop) (K : Exit → St → Prop) : Exit → St → Prop
  | .goto l', S => l' = l ∧ ∃ j, φ j ∧ Le cx S (inv j)
  | e, S => K e S
theorem awp_scope_jumps {ι : Type} {c rest : Code} {K : Exit → St → Prop} (l : Nat) (inv : ι → St) (φ : ι → Prop) (m : ι → Nat) (hf : findLabel c l = some rest) (first : AWp cx c (jumpK cx l inv φ K) S)
    (pass : ∀ i, φ i → AWp cx rest (jumpK cx l inv (fun j => φ j ∧ m j < m i) K) (inv i)) : AWp cx (.scope c) K S := by
  intro a w hs
  refine wpIn_scope_jumps l (fun a w => ∃ n, ∃ i, φ i ∧ m i = n ∧ Sim cx (inv i) a w) (fun a w => leastOf (fun n => ∃ i, φ i ∧ m i = n ∧ Sim cx (inv i) a w)) hf ?_ ?_
  · refine wpIn_mono (first a w hs) ?_
    rintro e a' w' (⟨S', h1, h2⟩ | ⟨rfl, hf⟩)
    · cases e with
      | goto l' =>
        obtain ⟨rfl, j, hj, hle⟩ := h2
        exact ⟨rfl, m j, j, hj, rfl, hle a' w' h1⟩
      | _ => exact .inl ⟨S', h1, h2⟩
    · exact .inr ⟨rfl, hf⟩
  · rintro a w hJ
    obtain ⟨i, hi, hm, h⟩ := (leastOf_spec hJ).1
    refine wpIn_mono (pass i hi a w h) ?_
    rintro e a' w' (⟨S', h1, h2⟩ | ⟨rfl, hf⟩)
    · cases e with
      | goto l' =>
        obtain ⟨rfl, j, ⟨hj, hlt⟩, hle⟩ := h2
        have hn : ∃ n, ∃ i, φ i ∧ m i = n ∧ Sim cx (inv i) a' w' := ⟨m j, j, hj, rfl, hle a' w' h1⟩
        refine ⟨rfl, hn, ?_⟩
        have := (leastOf_spec hn).2 (m j) ⟨j, hj, rfl, hle a' w' h1⟩
        rw [← hm]
        exact Nat.lt_of_le_of_lt this hlt
      | _ => exact .inl ⟨S', h1, h2⟩
    · exact .inr ⟨rfl, hf⟩
theorem awp_goto {l : Nat} {K : Exit → St → Prop} (h : K (.goto l) S) : AWp cx (.goto l) K S := fun _ _ hs => wpIn_goto (.inl ⟨S, hs, h⟩)
end
section
variable {cx : Cx} {S : St} {a : Act} {w : World} {o : Oper}
theorem SimU.noViews {μ : Nat → Option (Nat × Nat)} (h : SimU cx S a w μ) : SimU cx ⟨S.F, noViews S.M⟩ a w μ := h.weak (fun i => .inr rfl) fun t => by
  show Ab.noViews S.M t = S.M t ∨ Ab.noViews S.M t = ((S.M t).1, none)
  unfold Ab.noViews
  cases hq : (S.M t).2 with
  | none => exact .inl rfl
  | some b' =>
    simp only
    split
    · exact .inr rfl
    · exact .inl rfl
theorem upd_noViews_self {M : Nat → Nat × Option Blk} {t g : Nat} {b : Blk} (hM : M t = (g, some b)) (hst : OwS b.st) : upd (noViews M) t (g, some b) = noViews M := by
  funext q
  by_cases hq : q = t
  · subst hq
    rw [upd_same]
    unfold noViews
    rw [hM]
    have : ¬ b.st = 2 := by unfold OwS at hst; omega
    simp [this]
  · rw [upd_ne _ _ _ _ hq]
theorem copy_does (h0 : Sim cx S a w) {x y : Operand} {t ty e ey : TypeId} (ho : o.op = .call { callee := .builtin .copy, args := #[x, y], argTypes := #[t, ty] }) {d : Nat} (hd : o.dst = some d) (hdn : d < cx.n) {tg g n : Nat} {blk : Blk} {news : List SV}
    (hx : S.look x = (.sl tg g 0 n, some blk)) (he : elemP cx.P t = some e) (hey : elemP cx.P ty = some ey) (hs1 : szP cx.P e = some 1) (hb1 : blk.esz = 1) (hst : OwS blk.st) (hlen : blk.cells.length = n) (hsrc : srcSV 1 (S.look y) = some (n, news)) :
    Does cx ⟨upd S.F d (.dv (.int .i64 n)), upd (noViews S.M) tg (g, some { blk with cells := news })⟩ o a w := by
  obtain ⟨μ, h⟩ := h0
  have ex : S.ev x = .sl tg g 0 n := congrArg Prod.fst hx
  have eb : blkOf S.M (S.ev x) = some blk := congrArg Prod.snd hx
  have hv := h.ev x
  rw [ex] at hv eb
  have hM := blkOf_sl eb
  simp only [SVRep] at hv
  have hv2 := hv.2 _ hM
  have hb := h.blk tg g _ hM
  have hu := elemP_spec he
  obtain ⟨nv, hSrc, hnews⟩ := src_rep (w := w) h (s := S.ev y) hsrc (h.ev y) (elemP_spec hey)
  have hnl := hSrc.newsLen
  rw [Nat.mul_one] at hnl
  have hnl2 := hnews.length
  obtain ⟨i, hi, hi1⟩ := Option.map_eq_some_iff.1 (show (cx.P.info? e).map (·.size) = some 1 from hs1)
  have run1 : ∀ w', (Builtin.copy_ #[t, ty] o.type #[a.eval x, a.eval y]).run cx.P w = .ok (.int .i64 n) w' → (execOp a.eval o).run cx.P w = .ok (.value (.int .i64 n)) w' := fun w' hr => by
    refine builtin_exec ho ?_
    simp only [builtin, Sem.run_bind, List.map_toArray, List.map_cons, List.map_nil, hr, Result.andThen_ok]
    rfl
  unfold BlkRep at hb
  cases hm : μ tg with
  | none =>
    rw [hm] at hv2 hb
    simp only at hv2 hb
    obtain ⟨hv3, rfl, _⟩ := hv2
    have hnil : news = [] := List.eq_nil_of_length_eq_zero (by omega)
    have hnv : nv = [] := List.eq_nil_of_length_eq_zero hnl
    subst hnil; subst hnv
    have hblk : ({ blk with cells := [] } : Blk) = blk := by rw [← hb.1]
    intro Q
    unfold Oper.wp
    have hc := hSrc.cells
    have hl := hSrc.len w
    rw [run1 w (by rw [hv3]; simp [Builtin.copy_, run_underlying hu, sizeOf, typeInfo, hi, hi1, hl, hc, goInt])]
    show Sim cx _ (a.put o.dst _) w
    rw [hd, hblk, upd_noViews_self hM hst]
    exact ⟨μ, h.noViews.set hdn (by simp only [SVRep]; exact .int _ _)⟩
  | some p =>
    obtain ⟨b, cap⟩ := p
    rw [hm] at hv2 hb
    simp only at hv2 hb
    obtain ⟨hv3, hcap⟩ := hv2
    obtain ⟨cur, q1, q2, q3, q4, q5⟩ := hb
    simp only [Nat.zero_mul, Nat.sub_zero] at hv3
    have hst' := run_storeCells_at cx.P b 0 blk.elem nv 0 cur w q1 (by simp; omega) hSrc.one
    simp only [Nat.add_zero] at hst'
    have hW := h.write hM hst hm q1 0 news nv (by omega) (fun j c u hc hu => hnews.get j c u hc hu) (by omega)
    have hcells : putCells blk.cells 0 news = news := by
      unfold putCells
      rw [List.take_zero, List.nil_append, List.drop_of_length_le (by omega), List.append_nil]
    rw [hcells] at hW
    intro Q
    unfold Oper.wp
    have hc := hSrc.cells
    have hl := hSrc.len w
    rw [run1 (w.setRow b (putCells cur.toList 0 nv).toArray) (by
      rw [hv3]
      unfold putCells
      simp [Builtin.copy_, run_underlying hu, sizeOf, typeInfo, hi, hi1, hl, hc, goInt, hst'])]
    show Sim cx _ (a.put o.dst _) _
    rw [hd]
    exact ⟨μ, hW.set hdn (by simp only [SVRep]; exact .int _ _)⟩
theorem close_does (h0 : Sim cx S a w) {x y : Operand} {t e : TypeId} (ho : o.op = .call { callee := .builtin .append, args := #[x, y], argTypes := #[t, t] }) {d : Nat} (hd : o.dst = some d) (hdn : d < cx.n) {tg g i j m : Nat} {blk : Blk}
    (hx : S.look x = (.sl tg g 0 i, some blk)) (hy : S.look y = (.sl tg g j m, some blk)) (he : elemP cx.P t = some e) (hs1 : szP cx.P e = some 1) (hb1 : blk.esz = 1) (hrow : blk.row = true) (hst : OwS blk.st) (hok : (((blk.cells.drop j).take m).all cellOk) = true) (hj : j + m ≤ blk.cells.length) (hle : i + m ≤ blk.cells.length) :
    Does cx ⟨upd S.F d (.sl tg g 0 (i + m)), upd (noViews S.M) tg (g, some { blk with cells := putCells blk.cells i ((blk.cells.drop j).take m) })⟩ o a w := by
  obtain ⟨μ, h⟩ := h0
  have ex : S.ev x = .sl tg g 0 i := congrArg Prod.fst hx
  have eb : blkOf S.M (S.ev x) = some blk := congrArg Prod.snd hx
  have hv := h.ev x
  rw [ex] at hv eb
  have hM := blkOf_sl eb
  simp only [SVRep] at hv
  have hv2 := hv.2 _ hM
  have hb := h.blk tg g _ hM
  have hu := elemP_spec he
  have hsrc : srcSV 1 (S.look y) = some (m, (blk.cells.drop j).take m) := by
    rw [hy]
    simp only [srcSV, Nat.mul_one]
    rw [if_pos ⟨hb1, hj, hok⟩]
  obtain ⟨nv, hSrc, hnews⟩ := src_rep (w := w) h (s := S.ev y) hsrc (h.ev y) hu
  have hnl := hSrc.newsLen
  rw [Nat.mul_one] at hnl
  have hnl2 := hnews.length
  obtain ⟨inf, hi, hi1⟩ := Option.map_eq_some_iff.1 (show (cx.P.info? e).map (·.size) = some 1 from hs1)
  have hlen : ((blk.cells.drop j).take m).length = m := by simp; omega
  unfold BlkRep at hb
  cases hm : μ tg with
  | none =>
    rw [hm] at hv2 hb
    simp only at hv2 hb
    obtain ⟨hv3, rfl, _⟩ := hv2
    have hc0 : blk.cells = [] := hb.1
    have hm0 : m = 0 := by have : blk.cells.length = 0 := by rw [hc0]; rfl
                           omega
    subst hm0
    have hnv : nv = [] := List.eq_nil_of_length_eq_zero hnl
    subst hnv
    have hblk : ({ blk with cells := putCells blk.cells 0 ((blk.cells.drop j).take 0) } : Blk) = blk := by
      have : putCells blk.cells 0 ((blk.cells.drop j).take 0) = blk.cells := by simp [putCells]
      rw [this]
    intro Q
    unfold Oper.wp
    have hc := hSrc.cells
    have hl := hSrc.len w
    rw [append_exec (v := .slice none 0 0) (w' := w) ho (by rw [hv3]; simp [Builtin.append_, run_underlying hu, sizeOf, typeInfo, hi, hi1, hl, hc])]
    show Sim cx _ (a.put o.dst _) w
    rw [hd, hblk, upd_noViews_self hM hst]
    refine ⟨μ, h.noViews.set hdn ?_⟩
    have hz := h.noViews.ev x
    have ex2 : St.ev ⟨S.F, noViews S.M⟩ x = .sl tg g 0 0 := by rw [← ex]; cases x <;> rfl
    rw [ex2, hv3] at hz
    exact hz
  | some p =>
    obtain ⟨b, cap⟩ := p
    rw [hm] at hv2 hb
    simp only at hv2 hb
    obtain ⟨hv3, hcap⟩ := hv2
    obtain ⟨cur, q1, q2, q3, q4, q5⟩ := hb
    obtain ⟨q6, q7⟩ := q4 hrow
    rw [hb1, Nat.mul_one] at q6
    simp only [Nat.zero_mul, Nat.sub_zero] at hv3
    have hst' := run_storeCells_at cx.P b i blk.elem nv 0 cur w q1 (by simp; omega) hSrc.one
    simp only [Nat.add_zero] at hst'
    have hW := h.write hM hst hm q1 i ((blk.cells.drop j).take m) nv (by omega) (fun j c u hc hu => hnews.get j c u hc hu) (by omega)
    intro Q
    unfold Oper.wp
    have hc := hSrc.cells
    have hl := hSrc.len w
    have hroom : i + m ≤ cap := by omega
    rw [append_exec (v := .slice (some ⟨b, 0, none⟩) (i + m) cap) (w' := w.setRow b (putCells cur.toList i nv).toArray) ho (by
      rw [hv3]
      unfold putCells
      simp [Builtin.append_, run_underlying hu, sizeOf, typeInfo, hi, hi1, hl, hc, hroom, Addr.add_lit, hst'])]
    show Sim cx _ (a.put o.dst _) _
    rw [hd]
    refine ⟨μ, hW.set hdn ?_⟩
    simp only [SVRep]
    refine ⟨⟨by trivial, ?_⟩, fun blk' hb' => ?_⟩
    · show g ≤ (upd (noViews S.M) tg _ tg).1
      rw [upd_same]; exact Nat.le_refl _
    · rw [hm]
      simp only [Nat.zero_mul, Nat.sub_zero]
      exact ⟨trivial, by omega⟩
end
end Go.Ab
set_option linter.all false
set_option linter.unusedVariables false
namespace Go.Ab
open Go.RowKit
def closeL (L : List Int) (i j m : Nat) : List Int := L.take i ++ (L.drop j).take m ++ L.drop (i + m)
section
variable {cx : Cx} {S : St} {a : Act} {w : World} {o : Oper}
theorem cut3_does (h0 : Sim cx S a w) {t e : TypeId} {x lo hi mx : Operand} (ho : o.op = .slice t x (some lo) (some hi) (some mx)) {d : Nat} (hd : o.dst = some d) {tg g len sz : Nat} {blk : Blk} {n m : Int} (hx : S.look x = (.sl tg g 0 len, some blk)) (he : elemP cx.P t = some e) (hs : szP cx.P e = some sz)
    (h1 : S.ev lo = .dv (.int .i64 n)) (h2 : S.ev hi = .dv (.int .i64 m)) (h3 : S.ev mx = .dv (.int .i64 len)) (c0 : 0 ≤ n) (c1 : n ≤ m) (c2 : m ≤ len) : Does cx ⟨upd S.F d .dead, S.M⟩ o a w := by
  obtain ⟨μ, h⟩ := h0
  have ex : S.ev x = .sl tg g 0 len := congrArg Prod.fst hx
  have eb : blkOf S.M (S.ev x) = some blk := congrArg Prod.snd hx
  have hv := h.ev x
  rw [ex] at hv eb
  have hM := blkOf_sl eb
  simp only [SVRep] at hv
  have hv2 := hv.2 _ hM
  have hu := elemP_spec he
  have iv : ∀ {y : Operand} {q : Int}, S.ev y = .dv (.int .i64 q) → a.eval y = .int .i64 q := fun {y q} hy => by
    have := h.ev y
    rw [hy] at this
    simp only [SVRep] at this
    generalize a.eval y = v at this
    cases this
    rfl
  have val : ∃ ad cap, a.eval x = .slice ad len cap ∧ len ≤ cap := by
    cases hm : μ tg with
    | none =>
      rw [hm] at hv2
      simp only at hv2
      obtain ⟨e1, rfl, _⟩ := hv2
      exact ⟨none, 0, e1, Nat.le_refl _⟩
    | some p =>
      obtain ⟨b, cap⟩ := p
      rw [hm] at hv2
      simp only [Nat.sub_zero] at hv2
      exact ⟨_, cap, hv2.1, by have := hv2.2; omega⟩
  obtain ⟨ad, cap, e1, hcap⟩ := val
  have hb : ∀ w, (Instr.sliceBounds true len cap (some (.int .i64 n)) (some (.int .i64 m)) (some (.int .i64 (len : Int)))).run cx.P w = .ok (n.toNat, m.toNat, ((len : Int)).toNat) w := fun w => bounds_run (.inr ⟨_, rfl⟩) (.inr ⟨_, rfl⟩) (.inr ⟨_, rfl⟩) c0 c1 c2 (by omega) w
  have hrun := cut_slice_run (P := cx.P) hu hs (ad := ad) hb w
  intro Q
  unfold Oper.wp
  have hex : (execOp a.eval o).run cx.P w = .ok (.value (.slice (if ((len : Int)).toNat = n.toNat then ad else ad.map (·.add (n.toNat * sz))) (m.toNat - n.toNat) (((len : Int)).toNat - n.toNat))) w := by
    unfold execOp
    simp only [ho, Sem.run_bind, Option.map_some, iv h1, iv h2, iv h3, e1, hrun, Result.andThen_ok]
    rfl
  rw [hex]
  show Sim cx _ (a.put o.dst _) w
  rw [hd]
  refine ⟨μ, ⟨h.blk, fun i => ?_, h.place, h.uniq, h.anc, h.below, by simpa [Act.put] using h.size, h.defers⟩⟩
  show SVRep w S.M μ (XX cx S.M μ) (upd S.F d .dead i) _
  by_cases hi : i = d
  · subst hi; rw [upd_same]; trivial
  · rw [upd_ne _ _ _ _ hi]
    have := h.slot i
    simpa [Act.put, Array.getElem?_setIfInBounds_ne (Ne.symm hi)] using this
end
section
variable {cx : Cx} {P : Program} {N : Nat} {ops : Array Oper} {rest : List Oper} {l : List (Nat × SV)} {m m' : List (Nat × Nat × Option Blk)} {K : St → Prop} {KD : List It → St → Prop} {its : List It}
  {d : Nat} {ty ty' : TypeId} {p : String} {af : Array Edge} {gd : Option (Nat × Bool)} {x y lo hi mx : Operand} {t e ey : TypeId} {tg g n st : Nat} {k : IntKind} {L L0 : List Int}
theorem qcp {ob : Option Blk} (he : elemP P t = some e) (hey : elemP P ty' = some ey) (hs1 : szP P e = some 1) (kk : Chain cx ops rest ⟨lk ((d, .dv (.int .i64 n)) :: l), mkM ((tg, g, some ⟨L.map fun q => .dv (.int k q), 1, e, st, true⟩) :: m')⟩ K)
    (hx : St.look ⟨lk l, mkM m⟩ x = (.sl tg g 0 n, some ⟨L0.map fun q => .dv (.int k q), 1, e, st, true⟩) := by (simp only [St.look, St.ev, lk, mkM, blkOf, svOf, svOfCell, reduceIte, Nat.reduceAdd, Nat.reduceEqDiff, Nat.reduceMul] <;> rfl)) (hy : St.look ⟨lk l, mkM m⟩ y = (.dv (.list (L.map (DV.int k))), ob) := by (simp only [St.look, St.ev, lk, mkM, blkOf, svOf, svOfCell, reduceIte, Nat.reduceAdd, Nat.reduceEqDiff, Nat.reduceMul] <;> rfl)) (hst : OwS st := by (first | exact .inl rfl | exact .inr (Nat.le_of_ble_eq_true rfl))) (hl0 : L0.length = n := by (first | rfl | (simp; done) | (simp; omega))) (hl : L.length = n := by (first | rfl | (simp; done) | (simp; omega))) (hm : nvL m = m' := by (simp only [nvL, killV] <;> rfl)) (hP : cx.P = P := by assumption) (hn : cx.n = N := by assumption) (hd : d < N := by decide) (hgd : GOk ops ⟨lk l, mkM m⟩ gd := by (first | exact trivial | exact ⟨_, rfl, by (simp only [lk, reduceIte, Nat.reduceEqDiff])⟩)) :
    Chain cx ops (⟨some d, .call { callee := .builtin .copy, args := #[x, y], argTypes := #[t, ty'] }, ty, p, af, gd⟩ :: rest) ⟨lk l, mkM m⟩ K := by
  subst hP; subst hn; subst hm
  refine ⟨_, gstep_of hgd (.sem fun _ a w h => copy_does h rfl rfl hd hx he hey hs1 rfl hst (by simpa using hl0) (by rw [hy, ← hl]; exact src_ints)), ?_⟩
  simp only [noViews_mkM, upd_mkM, upd_lk]
  exact kk
theorem q3c {sz len : Nat} {blk : Blk} {b c : Int} (he : elemP P t = some e) (hs : szP P e = some sz) (kk : Chain cx ops rest ⟨lk ((d, .dead) :: l), mkM m⟩ K) (hx : St.look ⟨lk l, mkM m⟩ x = (.sl tg g 0 len, some blk) := by (simp only [St.look, St.ev, lk, mkM, blkOf, svOf, svOfCell, reduceIte, Nat.reduceAdd, Nat.reduceEqDiff, Nat.reduceMul] <;> rfl))
    (h1 : St.ev ⟨lk l, mkM m⟩ lo = .dv (.int .i64 b) := by (simp only [St.look, St.ev, lk, mkM, blkOf, svOf, svOfCell, reduceIte, Nat.reduceAdd, Nat.reduceEqDiff, Nat.reduceMul] <;> rfl)) (h2 : St.ev ⟨lk l, mkM m⟩ hi = .dv (.int .i64 c) := by (simp only [St.look, St.ev, lk, mkM, blkOf, svOf, svOfCell, reduceIte, Nat.reduceAdd, Nat.reduceEqDiff, Nat.reduceMul] <;> rfl)) (h3 : St.ev ⟨lk l, mkM m⟩ mx = .dv (.int .i64 len) := by (simp only [St.look, St.ev, lk, mkM, blkOf, svOf, svOfCell, reduceIte, Nat.reduceAdd, Nat.reduceEqDiff, Nat.reduceMul] <;> rfl)) (c0 : 0 ≤ b := by (first | omega | (simp only [Int.toNat_natCast, List.length_map, List.length_append, List.length_cons, List.length_nil, List.length_take, List.length_drop, List.length_set, List.length_replicate, Nat.zero_add, Nat.mul_one] <;> omega) | (simp <;> omega))) (c1 : b ≤ c := by (first | omega | (simp only [Int.toNat_natCast, List.length_map, List.length_append, List.length_cons, List.length_nil, List.length_take, List.length_drop, List.length_set, List.length_replicate, Nat.zero_add, Nat.mul_one] <;> omega) | (simp <;> omega))) (c2 : c ≤ len := by (first | omega | (simp only [Int.toNat_natCast, List.length_map, List.length_append, List.length_cons, List.length_nil, List.length_take, List.length_drop, List.length_set, List.length_replicate, Nat.zero_add, Nat.mul_one] <;> omega) | (simp <;> omega))) (hP : cx.P = P := by assumption) (hgd : GOk ops ⟨lk l, mkM m⟩ gd := by (first | exact trivial | exact ⟨_, rfl, by (simp only [lk, reduceIte, Nat.reduceEqDiff])⟩)) :
    Chain cx ops (⟨some d, .slice t x (some lo) (some hi) (some mx), ty, p, af, gd⟩ :: rest) ⟨lk l, mkM m⟩ K := by
  subst hP
  refine ⟨_, gstep_of hgd (.sem fun _ a w h => cut3_does h rfl rfl hx he hs h1 h2 h3 c0 c1 c2), ?_⟩
  simp only [upd_lk]
  exact kk
theorem zcl {i j q : Nat} {L' : List Int} (he : elemP P t = some e) (hs1 : szP P e = some 1) (kk : DChain cx ops rest (⟨[tg], ⟨some d, .sl tg g 0 (i + q), true, [(tg, g, some ⟨L'.map fun q => .dv (.int k q), 1, e, st, true⟩)]⟩⟩ :: its) ⟨lk ((d, .sl tg g 0 (i + q)) :: l), mkM ((tg, g, some ⟨L'.map fun q => .dv (.int k q), 1, e, st, true⟩) :: m')⟩ KD)
    (hx : St.look ⟨lk l, mkM m⟩ x = (.sl tg g 0 i, some ⟨L.map fun q => .dv (.int k q), 1, e, st, true⟩) := by (simp only [St.look, St.ev, lk, mkM, blkOf, svOf, svOfCell, reduceIte, Nat.reduceAdd, Nat.reduceEqDiff, Nat.reduceMul] <;> rfl)) (hy : St.look ⟨lk l, mkM m⟩ y = (.sl tg g j q, some ⟨L.map fun q => .dv (.int k q), 1, e, st, true⟩) := by (simp only [St.look, St.ev, lk, mkM, blkOf, svOf, svOfCell, reduceIte, Nat.reduceAdd, Nat.reduceEqDiff, Nat.reduceMul] <;> rfl)) (hst : OwS st := by (first | exact .inl rfl | exact .inr (Nat.le_of_ble_eq_true rfl))) (hj : j + q ≤ L.length := by (first | omega | (simp only [Int.toNat_natCast, List.length_map, List.length_append, List.length_cons, List.length_nil, List.length_take, List.length_drop, List.length_set, List.length_replicate, Nat.zero_add, Nat.mul_one] <;> omega) | (simp <;> omega))) (hle : i + q ≤ L.length := by (first | omega | (simp only [Int.toNat_natCast, List.length_map, List.length_append, List.length_cons, List.length_nil, List.length_take, List.length_drop, List.length_set, List.length_replicate, Nat.zero_add, Nat.mul_one] <;> omega) | (simp <;> omega))) (hL : closeL L i j q = L' := by (first | rfl | assumption)) (hm : nvL m = m' := by (simp only [nvL, killV] <;> rfl)) (hP : cx.P = P := by assumption) (hn : cx.n = N := by assumption) (hd : d < N := by decide) :
    DChain cx ops (⟨some d, .call { callee := .builtin .append, args := #[x, y], argTypes := #[t, t] }, ty, p, af, none⟩ :: rest) its ⟨lk l, mkM m⟩ KD := by
  subst hP; subst hn; subst hm; subst hL
  have hcl : putCells (L.map fun q => SV.dv (.int k q)) i (((L.map fun q => SV.dv (.int k q)).drop j).take q) = (closeL L i j q).map fun q => SV.dv (.int k q) := by
    have hl : (((L.map fun q => SV.dv (.int k q)).drop j).take q).length = q := by simp; omega
    unfold putCells closeL
    rw [hl]
    simp [List.map_take, List.map_drop]
  refine ⟨⟨[tg], ⟨some d, .sl tg g 0 (i + q), true, [(tg, g, some ⟨(closeL L i j q).map fun q => .dv (.int k q), 1, e, st, true⟩)]⟩⟩, ⟨rfl, fun r hr => by simp only [List.mem_singleton] at hr; subst hr; simp, fun _ => by simp⟩, ?_, by
    have e1 : Eff.app ⟨lk l, mkM m⟩ ⟨some d, .sl tg g 0 (i + q), true, [(tg, g, some ⟨(closeL L i j q).map fun q => .dv (.int k q), 1, e, st, true⟩)]⟩ = ⟨lk ((d, .sl tg g 0 (i + q)) :: l), mkM ((tg, g, some ⟨(closeL L i j q).map fun q => .dv (.int k q), 1, e, st, true⟩) :: nvL m)⟩ := by
      unfold Eff.app
      simp only [upd_lk, if_true, setM, noViews_mkM, upd_mkM]
    rw [e1]; exact kk⟩
  intro T t1 t2
  show Step cx T _ _
  have hev := ev_congr t1
  have look : ∀ z : Operand, z = x ∨ z = y → T.ev z = St.ev ⟨lk l, mkM m⟩ z := fun z hz => hev z (by rcases hz with rfl | rfl <;> simp [Op.operands, Call.operands])
  have hMt : T.M tg = mkM m tg := t2 tg (by simp)
  have lk2 : ∀ {z : Operand} {o' n' : Nat} {b : Blk}, z = x ∨ z = y → St.look ⟨lk l, mkM m⟩ z = (.sl tg g o' n', some b) → T.look z = (.sl tg g o' n', some b) := fun {z o' n' b} hz hh => by
    have h1 : St.ev ⟨lk l, mkM m⟩ z = .sl tg g o' n' := congrArg Prod.fst hh
    have h2 : blkOf (mkM m) (St.ev ⟨lk l, mkM m⟩ z) = some b := congrArg Prod.snd hh
    rw [h1] at h2
    show (T.ev z, blkOf T.M (T.ev z)) = _
    rw [look z hz, h1]
    have h3 := blkOf_sl h2
    congr 1
    unfold blkOf
    simp only [hMt, h3, if_true]
  refine .sem fun _ a w h => ?_
  have := close_does (S := T) (o := ⟨some d, .call { callee := .builtin .append, args := #[x, y], argTypes := #[t, t] }, ty, p, af, none⟩) h rfl rfl hd (lk2 (.inl rfl) hx) (lk2 (.inr rfl) hy) he hs1 rfl rfl hst (by
    rw [List.all_eq_true]
    intro c hc
    have hc2 := List.mem_of_mem_drop (List.mem_of_mem_take hc)
    obtain ⟨q', _, rfl⟩ := List.mem_map.1 hc2
    rfl) (by simpa using hj) (by simpa using hle)
  rw [hcl] at this
  simpa [Eff.app, setM] using this
end
end Go.Ab
set_option linter.all false
set_option linter.unusedVariables false
namespace Go.Ab
open Go.RowKit
section
variable {cx : Cx} {P : Program} {N : Nat} {ops : Array Oper} {rest : List Oper} {l : List (Nat × SV)} {m m' : List (Nat × Nat × Option Blk)} {KD : List It → St → Prop} {its : List It}
  {ty : TypeId} {p : String} {af : Array Edge} {x : Operand} {t e : TypeId} {tg g off n st : Nat} {k : IntKind} {L : List Int}
end
section
variable {cx : Cx} {S : St} {a : Act} {w : World} {o : Oper}
theorem appIn_does (h0 : Sim cx S a w) {x y : Operand} {t e : TypeId} (ho : o.op = .call { callee := .builtin .append, args := #[x, y], argTypes := #[t, t] }) {d : Nat} (hd : o.dst = some d) (hdn : d < cx.n) {tg g i m : Nat} {blk : Blk} {news : List SV}
    (hx : S.look x = (.sl tg g 0 i, some blk)) (hsrc : srcSV 1 (S.look y) = some (m, news)) (he : elemP cx.P t = some e) (hs1 : szP cx.P e = some 1) (hb1 : blk.esz = 1) (hrow : blk.row = true) (hst : OwS blk.st) (hlen : news.length = m) (hle : i + m ≤ blk.cells.length) :
    Does cx ⟨upd S.F d (.sl tg g 0 (i + m)), upd (noViews S.M) tg (g, some { blk with cells := putCells blk.cells i news })⟩ o a w := by
  obtain ⟨μ, h⟩ := h0
  have ex : S.ev x = .sl tg g 0 i := congrArg Prod.fst hx
  have eb : blkOf S.M (S.ev x) = some blk := congrArg Prod.snd hx
  have hv := h.ev x
  rw [ex] at hv eb
  have hM := blkOf_sl eb
  simp only [SVRep] at hv
  have hv2 := hv.2 _ hM
  have hb := h.blk tg g _ hM
  have hu := elemP_spec he
  obtain ⟨nv, hSrc, hnews⟩ := src_rep (w := w) h (s := S.ev y) hsrc (h.ev y) hu
  have hnl := hSrc.newsLen
  rw [Nat.mul_one] at hnl
  have hnl2 := hnews.length
  obtain ⟨inf, hi, hi1⟩ := Option.map_eq_some_iff.1 (show (cx.P.info? e).map (·.size) = some 1 from hs1)
  unfold BlkRep at hb
  cases hm : μ tg with
  | none =>
    rw [hm] at hv2 hb
    simp only at hv2 hb
    obtain ⟨hv3, rfl, _⟩ := hv2
    have hc0 : blk.cells = [] := hb.1
    have hm0 : m = 0 := by have : blk.cells.length = 0 := by rw [hc0]; rfl
                           omega
    subst hm0
    have hnv : nv = [] := List.eq_nil_of_length_eq_zero hnl
    subst hnv
    have hblk : ({ blk with cells := putCells blk.cells 0 news } : Blk) = blk := by
      have hn0 : news = [] := List.eq_nil_of_length_eq_zero hlen
      have : putCells blk.cells 0 news = blk.cells := by rw [hn0]; simp [putCells]
      rw [this]
    intro Q
    unfold Oper.wp
    have hc := hSrc.cells
    have hl := hSrc.len w
    rw [append_exec (v := .slice none 0 0) (w' := w) ho (by rw [hv3]; simp [Builtin.append_, run_underlying hu, sizeOf, typeInfo, hi, hi1, hl, hc])]
    show Sim cx _ (a.put o.dst _) w
    rw [hd, hblk, upd_noViews_self hM hst]
    refine ⟨μ, h.noViews.set hdn ?_⟩
    have hz := h.noViews.ev x
    have ex2 : St.ev ⟨S.F, noViews S.M⟩ x = .sl tg g 0 0 := by rw [← ex]; cases x <;> rfl
    rw [ex2, hv3] at hz
    exact hz
  | some p =>
    obtain ⟨b, cap⟩ := p
    rw [hm] at hv2 hb
    simp only at hv2 hb
    obtain ⟨hv3, hcap⟩ := hv2
    obtain ⟨cur, q1, q2, q3, q4, q5⟩ := hb
    obtain ⟨q6, q7⟩ := q4 hrow
    rw [hb1, Nat.mul_one] at q6
    simp only [Nat.zero_mul, Nat.sub_zero] at hv3
    have hst' := run_storeCells_at cx.P b i blk.elem nv 0 cur w q1 (by simp; omega) hSrc.one
    simp only [Nat.add_zero] at hst'
    have hW := h.write hM hst hm q1 i news nv (by omega) (fun j c u hc hu => hnews.get j c u hc hu) (by omega)
    intro Q
    unfold Oper.wp
    have hc := hSrc.cells
    have hl := hSrc.len w
    have hroom : i + m ≤ cap := by omega
    rw [append_exec (v := .slice (some ⟨b, 0, none⟩) (i + m) cap) (w' := w.setRow b (putCells cur.toList i nv).toArray) ho (by
      rw [hv3]
      unfold putCells
      simp [Builtin.append_, run_underlying hu, sizeOf, typeInfo, hi, hi1, hl, hc, hroom, Addr.add_lit, hst'])]
    show Sim cx _ (a.put o.dst _) _
    rw [hd]
    refine ⟨μ, hW.set hdn ?_⟩
    simp only [SVRep]
    refine ⟨⟨by trivial, ?_⟩, fun blk' hb' => ?_⟩
    · show g ≤ (upd (noViews S.M) tg _ tg).1
      rw [upd_same]; exact Nat.le_refl _
    · rw [hm]
      simp only [Nat.zero_mul, Nat.sub_zero]
      exact ⟨trivial, by omega⟩
end
section
variable {cx : Cx} {P : Program} {N : Nat} {ops : Array Oper} {rest : List Oper} {l : List (Nat × SV)} {m m' : List (Nat × Nat × Option Blk)} {KD : List It → St → Prop} {its : List It}
  {d : Nat} {ty : TypeId} {p : String} {af : Array Edge} {x y : Operand} {t e : TypeId} {tg g st i : Nat} {k : IntKind} {L : List Int}
theorem zcl0 (he : elemP P t = some e) (hs1 : szP P e = some 1) (kk : DChain cx ops rest (⟨[tg], ⟨some d, .sl tg g 0 i, true, [(tg, g, some ⟨L.map fun q => .dv (.int k q), 1, e, st, true⟩)]⟩⟩ :: its) ⟨lk ((d, .sl tg g 0 i) :: l), mkM ((tg, g, some ⟨L.map fun q => .dv (.int k q), 1, e, st, true⟩) :: m')⟩ KD)
    (hx : St.look ⟨lk l, mkM m⟩ x = (.sl tg g 0 i, some ⟨L.map fun q => .dv (.int k q), 1, e, st, true⟩) := by (simp only [St.look, St.ev, lk, mkM, blkOf, svOf, svOfCell, reduceIte, Nat.reduceAdd, Nat.reduceEqDiff, Nat.reduceMul] <;> rfl)) (hy : St.look ⟨lk l, mkM m⟩ y = (.dv (.list []), none) := by (simp only [St.look, St.ev, lk, mkM, blkOf, svOf, svOfCell, reduceIte, Nat.reduceAdd, Nat.reduceEqDiff, Nat.reduceMul] <;> rfl)) (hst : OwS st := by (first | exact .inl rfl | exact .inr (Nat.le_of_ble_eq_true rfl))) (hle : i ≤ L.length := by (first | omega | (simp only [Int.toNat_natCast, List.length_map, List.length_append, List.length_cons, List.length_nil, List.length_take, List.length_drop, List.length_set, List.length_replicate, Nat.zero_add, Nat.mul_one] <;> omega) | (simp <;> omega))) (hm : nvL m = m' := by (simp only [nvL, killV] <;> rfl)) (hP : cx.P = P := by assumption) (hn : cx.n = N := by assumption) (hd : d < N := by decide) :
    DChain cx ops (⟨some d, .call { callee := .builtin .append, args := #[x, y], argTypes := #[t, t] }, ty, p, af, none⟩ :: rest) its ⟨lk l, mkM m⟩ KD := by
  subst hP; subst hn; subst hm
  refine ⟨⟨[tg], ⟨some d, .sl tg g 0 i, true, [(tg, g, some ⟨L.map fun q => .dv (.int k q), 1, e, st, true⟩)]⟩⟩, ⟨rfl, fun r hr => by simp only [List.mem_singleton] at hr; subst hr; simp, fun _ => by simp⟩, ?_, by
    have e1 : Eff.app ⟨lk l, mkM m⟩ ⟨some d, .sl tg g 0 i, true, [(tg, g, some ⟨L.map fun q => .dv (.int k q), 1, e, st, true⟩)]⟩ = ⟨lk ((d, .sl tg g 0 i) :: l), mkM ((tg, g, some ⟨L.map fun q => .dv (.int k q), 1, e, st, true⟩) :: nvL m)⟩ := by
      unfold Eff.app
      simp only [upd_lk, if_true, setM, noViews_mkM, upd_mkM]
    rw [e1]; exact kk⟩
  intro T t1 t2
  show Step cx T _ _
  have hev := ev_congr t1
  have look : ∀ z : Operand, z = x ∨ z = y → T.ev z = St.ev ⟨lk l, mkM m⟩ z := fun z hz => hev z (by rcases hz with rfl | rfl <;> simp [Op.operands, Call.operands])
  have hMt : T.M tg = mkM m tg := t2 tg (by simp)
  have lkx : T.look x = (.sl tg g 0 i, some ⟨L.map fun q => .dv (.int k q), 1, e, st, true⟩) := by
    have h1 : St.ev ⟨lk l, mkM m⟩ x = .sl tg g 0 i := congrArg Prod.fst hx
    have h2 : blkOf (mkM m) (St.ev ⟨lk l, mkM m⟩ x) = some ⟨L.map fun q => .dv (.int k q), 1, e, st, true⟩ := congrArg Prod.snd hx
    rw [h1] at h2
    show (T.ev x, blkOf T.M (T.ev x)) = _
    rw [look x (.inl rfl), h1]
    have h3 := blkOf_sl h2
    congr 1
    unfold blkOf
    simp only [hMt, h3, if_true]
  have lky : T.look y = (.dv (.list []), none) := by
    have h1 : St.ev ⟨lk l, mkM m⟩ y = .dv (.list []) := congrArg Prod.fst hy
    show (T.ev y, blkOf T.M (T.ev y)) = _
    rw [look y (.inr rfl), h1]; rfl
  refine .sem fun _ a w h => ?_
  have := appIn_does (S := T) (o := ⟨some d, .call { callee := .builtin .append, args := #[x, y], argTypes := #[t, t] }, ty, p, af, none⟩) (m := 0) (news := []) h rfl rfl hd lkx (by rw [lky]; rfl) he hs1 rfl rfl hst rfl (by simpa using hle)
  simpa [Eff.app, setM, putCells] using this
end
section
variable {cx : Cx} {S : St} {a : Act} {w : World} {o : Oper}
theorem cutCap_does (h0 : Sim cx S a w) {t e : TypeId} {x lo hi : Operand} (ho : o.op = .slice t x (some lo) (some hi) none) {d : Nat} (hd : o.dst = some d) (hdn : d < cx.n) {tg g len : Nat} {blk : Blk} {n m : Nat} (hx : S.look x = (.sl tg g 0 len, some blk)) (he : elemP cx.P t = some e) (hs : szP cx.P e = some 1) (hb1 : blk.esz = 1) (hrow : blk.row = true)
    (h1 : S.ev lo = .dv (.int .i64 (n : Int))) (h2 : S.ev hi = .dv (.int .i64 (m : Int))) (c1 : n < m) (c2 : m ≤ blk.cells.length) : Does cx ⟨upd S.F d (.sl tg g n (m - n)), S.M⟩ o a w := by
  obtain ⟨μ, h⟩ := h0
  have ex : S.ev x = .sl tg g 0 len := congrArg Prod.fst hx
  have eb : blkOf S.M (S.ev x) = some blk := congrArg Prod.snd hx
  have hv := h.ev x
  rw [ex] at hv eb
  have hM := blkOf_sl eb
  simp only [SVRep] at hv
  have hv2 := hv.2 _ hM
  have hb := h.blk tg g _ hM
  have hu := elemP_spec he
  have iv : ∀ {y : Operand} {q : Int}, S.ev y = .dv (.int .i64 q) → a.eval y = .int .i64 q := fun {y q} hy => by
    have := h.ev y
    rw [hy] at this
    simp only [SVRep] at this
    generalize a.eval y = v at this
    cases this
    rfl
  unfold BlkRep at hb
  cases hm : μ tg with
  | none =>
    rw [hm] at hb
    have : blk.cells.length = 0 := by rw [hb.1]; rfl
    omega
  | some p =>
    obtain ⟨b, cap⟩ := p
    rw [hm] at hv2 hb
    simp only at hv2 hb
    obtain ⟨hv3, hcap⟩ := hv2
    obtain ⟨cur, q1, q2, q3, q4, q5⟩ := hb
    obtain ⟨q6, q7⟩ := q4 hrow
    rw [hb1, Nat.mul_one] at q6
    simp only [Nat.zero_mul, Nat.sub_zero] at hv3
    have hbd : ∀ w, (Instr.sliceBounds true len cap (some (.int .i64 (n : Int))) (some (.int .i64 (m : Int))) none).run cx.P w = .ok ((n : Int).toNat, (m : Int).toNat, ((cap : Int)).toNat) w := fun w => bounds_run (.inr ⟨_, rfl⟩) (.inr ⟨_, rfl⟩) (.inl ⟨rfl, rfl⟩) (by omega) (by omega) (by omega) (by omega) w
    have hrun := cut_slice_run (P := cx.P) hu hs (ad := some ⟨b, 0, none⟩) hbd w
    intro Q
    unfold Oper.wp
    have hex : (execOp a.eval o).run cx.P w = .ok (.value (.slice (some ⟨b, n, none⟩) (m - n) (cap - n))) w := by
      unfold execOp
      simp only [ho, Sem.run_bind, Option.map_some, Option.map_none, iv h1, iv h2, hv3, hrun, Result.andThen_ok]
      rw [if_neg (by omega)]
      simp [Addr.add_lit]
    rw [hex]
    show Sim cx _ (a.put o.dst _) w
    rw [hd]
    refine ⟨μ, h.set hdn ?_⟩
    simp only [SVRep]
    refine ⟨⟨by trivial, hv.1.2⟩, fun blk' hb' => ?_⟩
    rw [hM] at hb'
    simp only [Prod.mk.injEq, Option.some.injEq, true_and] at hb'
    subst hb'
    rw [hm]
    simp only [hb1, Nat.mul_one]
    exact ⟨trivial, by omega⟩
end
section
variable {cx : Cx} {P : Program} {N : Nat} {ops : Array Oper} {rest : List Oper} {l : List (Nat × SV)} {m : List (Nat × Nat × Option Blk)} {K : St → Prop}
  {d : Nat} {ty : TypeId} {p : String} {af : Array Edge} {gd : Option (Nat × Bool)} {x lo hi : Operand} {t e : TypeId} {tg g len : Nat} {blk : Blk}
theorem qcut (n q : Nat) (he : elemP P t = some e) (hs : szP P e = some 1) (kk : Chain cx ops rest ⟨lk ((d, .sl tg g n (q - n)) :: l), mkM m⟩ K) (hx : St.look ⟨lk l, mkM m⟩ x = (.sl tg g 0 len, some blk) := by (simp only [St.look, St.ev, lk, mkM, blkOf, svOf, svOfCell, reduceIte, Nat.reduceAdd, Nat.reduceEqDiff, Nat.reduceMul] <;> rfl))
    (h1 : St.ev ⟨lk l, mkM m⟩ lo = .dv (.int .i64 (n : Int)) := by (simp only [St.look, St.ev, lk, mkM, blkOf, svOf, svOfCell, reduceIte, Nat.reduceAdd, Nat.reduceEqDiff, Nat.reduceMul] <;> rfl)) (h2 : St.ev ⟨lk l, mkM m⟩ hi = .dv (.int .i64 (q : Int)) := by (simp only [St.look, St.ev, lk, mkM, blkOf, svOf, svOfCell, reduceIte, Nat.reduceAdd, Nat.reduceEqDiff, Nat.reduceMul] <;> rfl)) (hb1 : blk.esz = 1 := by rfl) (hrow : blk.row = true := by rfl) (c1 : n < q := by (first | omega | (simp <;> omega))) (c2 : q ≤ blk.cells.length := by (first | omega | (simp <;> omega))) (hP : cx.P = P := by assumption) (hn : cx.n = N := by assumption) (hd : d < N := by decide) (hgd : GOk ops ⟨lk l, mkM m⟩ gd := by (first | exact trivial | exact ⟨_, rfl, by (simp only [lk, reduceIte, Nat.reduceEqDiff])⟩)) :
    Chain cx ops (⟨some d, .slice t x (some lo) (some hi) none, ty, p, af, gd⟩ :: rest) ⟨lk l, mkM m⟩ K := by
  subst hP; subst hn
  refine ⟨_, gstep_of hgd (.sem fun _ a w h => cutCap_does h rfl rfl hd hx he hs hb1 hrow h1 h2 c1 c2), ?_⟩
  simp only [upd_lk]
  exact kk
end
end Go.Ab
