/- Way8, WayK, Ab52, Ab58, Ab53, Ab60, WayM. -/
import Derived.Test.YtjlfgobbieljoaaDoorBogG19
import Derived.Test.YtjlfgobbieljoaaDoorBogG16
import Derived.Test.YtjlfgobbieljoaaDoorBogG17
import Derived.Conc.MuLone
import Derived.Laws.Tables
import Derived.Defers
import Derived.Test.YtjlfgobbieljoaaDoorBogG18
import Derived.Test.YtjlfgobbieljoaaDoorBogG18
import Derived.Maps.OwnSet
set_option linter.all false
set_option linter.all false
namespace Go.Ab.Tryd
open Go Go.Ab Go.Proofs
def sg (l : List Int) (i : Nat) : Int := l.getD i 0
theorem sg_get {l : List Int} {i : Nat} (h : i < l.length) : l[i]? = some (sg l i) := by simp [sg, h]
theorem sg_ext {a b : List Int} (hl : a.length = b.length) (h : ∀ j, j < a.length → sg a j = sg b j) : a = b := by
  refine List.ext_getElem hl fun j h1 h2 => ?_
  have := h j h1
  simpa [sg, h1, h2] using this
def keyL (m : List Int) : Tx := Lib.join (m.map dg) [32]
theorem take_snoc' {α β : Type} {l : List α} {f : α → β} {i : Nat} {a : α} (h : l[i]? = some a) : (l.take (i + 1)).map f = (l.take i).map f ++ [f a] := by
  rw [List.take_add_one, h, List.map_append]; rfl
def tkL (m : List Int) (i : Nat) : List Tx := (m.take i).map dg
theorem tkL_zero {m : List Int} : tkL m 0 = [] := rfl
theorem tkL_succ {m : List Int} {i : Nat} {x : Int} (h : m[i]? = some x) : tkL m (i + 1) = tkL m i ++ [dg x] := take_snoc' h
theorem tkL_len {m : List Int} {i : Nat} (h : i ≤ m.length) : (tkL m i).length = i := by simp [tkL]; omega
theorem tkL_all {m : List Int} {i : Nat} (h : m.length ≤ i) : tkL m i = m.map dg := by unfold tkL; rw [List.take_of_length_le h]
theorem dg_len {x : Int} (h : 0 ≤ x ∧ x ≤ 50) : (dg x).length ≤ 2 := by
  obtain ⟨n, rfl⟩ : ∃ n : Nat, x = n := ⟨x.toNat, by omega⟩
  have hn : n < 51 := by omega
  have : ∀ n : Fin 51, (dg ((n : Nat) : Int)).length ≤ 2 := by decide +kernel
  exact this ⟨n, hn⟩
theorem key_len {m : List Int} (hm : ∀ x ∈ m, 0 ≤ x ∧ x ≤ 50) : (keyL m).length ≤ 3 * m.length := by
  unfold keyL
  cases m with
  | nil => simp [Lib.join_nil]
  | cons x r =>
    rw [List.map_cons, Lib.join_cons, List.length_append]
    have h1 := dg_len (hm x (by simp))
    have h2 : ∀ r : List Int, (∀ x ∈ r, 0 ≤ x ∧ x ≤ 50) → (Lib.joinTail [32] (r.map dg)).length ≤ 3 * r.length := by
      intro r
      induction r with
      | nil => intro _; simp [Lib.joinTail]
      | cons y r ih =>
        intro h
        have := ih fun z hz => h z (by simp [hz])
        have h3 := dg_len (h y (by simp))
        unfold Lib.joinTail at this ⊢
        simp only [List.map_cons, List.flatten_cons, List.length_append, List.length_cons, List.length_nil] at this ⊢
        omega
    have := h2 r fun y hy => hm y (by simp [hy])
    simp only [List.length_cons]
    omega
theorem f17 (a b : List Int) (ha : a.length < 1000000) : ACallsF Tryd.prog 17 [ints a, ints b] (.one (.dv (.bool (decide (a = b))))) := by
  refine callsF_of Tryd.func17 rfl rfl (by rw [Tryd.ntmps17]; simp) fun cx hP hn hg => ?_
  rw [Tryd.ntmps17] at hn
  rw [startF_lk, none_mkM]
  simp only [List.nil_append, List.append_nil, List.cons_append, zipSV, Nat.reduceAdd]
  refine awp_seq ?_
  refine rg ?_
  refine qv m_as ?_
  show AWp cx _ _ _
  refine awp_seq ?_
  refine awp_seq ?_
  refine rg ?_
  refine qv m_mv ?_
  refine qv (m_len il25) ?_
  refine qv m_mv ?_
  refine qv (m_len il25) ?_
  refine qv m_neq ?_
  show AWp cx _ _ _
  refine cd (fun hc0 => ?_) (fun hc0 => ?_)
  · try simp at hc0
    refine awp_seq ?_
    refine rg ?_
    refine qv m_as ?_
    show AWp cx _ _ _
    refine awp_ret ?_
    exact x1 (hr := (rB_ (by symm; rw [decide_eq_false_iff_not]; intro e; exact hc0 (by rw [e]))))
  · try simp at hc0
    have hlab : a.length = b.length := by exact_mod_cast hc0
    refine awp_skip ?_
    show AWp cx _ _ _
    refine awp_seq ?_
    refine awp_seq ?_
    refine rg ?_
    refine qv m_mv ?_
    refine qv (m_len il25) ?_
    refine qv m_mv ?_
    show AWp cx _ _ _
    refine awp_block ?_
    refine awp_loop (ι := Nat) (fun i => ⟨lk [(0, .dv (ints (a))), (1, .dv (ints (b))), (12, .dv (i64 ((a.length : Int)))), (13, .dv (i64 (i : Nat)))], mkM []⟩) (fun i => i ≤ a.length ∧ ∀ j, j < i → sg a j = sg b j) (fun i => a.length - i) 0 (by simp) (tl []) ?_
    intro i hφ0
    refine awp_seq ?_
    refine rg ?_
    refine qv m_lss ?_
    show AWp cx _ _ _
    refine awp_seq ?_
    refine cd (fun hc1 => ?_) (fun hc1 => ?_)
    · try simp at hc1
      refine awp_skip ?_
      show AWp cx _ _ _
      refine awp_seq ?_
      refine awp_block ?_
      refine awp_seq ?_
      refine rg ?_
      refine qv m_mv ?_
      refine qv m_as ?_
      show AWp cx _ _ _
      refine awp_seq ?_
      have hi : i < a.length := by omega
      have hga := sg_get hi
      have hgb := sg_get (l := b) (i := i) (by omega)
      refine rd mixed ?_
      refine zv m_mv ?_
      refine zv m_mv ?_
      first | refine zv (m_ixN el25 sz3) ?_ | refine zv (m_ix el25 sz3) ?_
      refine zv (m_ld sz3 ag3) ?_
      refine zv m_mv ?_
      refine zv m_mv ?_
      first | refine zv (m_ixN el25 sz3) ?_ | refine zv (m_ix el25 sz3) ?_
      refine zv (m_ld sz3 ag3) ?_
      refine zv m_neq ?_
      refine ⟨by rfl, ?_⟩
      show AWp cx _ _ _
      refine cd (fun hc2 => ?_) (fun hc2 => ?_)
      · try simp at hc2
        refine awp_seq ?_
        refine rg ?_
        refine qv m_as ?_
        show AWp cx _ _ _
        refine awp_ret ?_
        exact x1 (hr := (rB_ (by symm; rw [decide_eq_false_iff_not]; intro e; exact hc2 (by rw [e]))))
      · try simp at hc2
        refine awp_skip ?_
        show AWp cx _ _ _
        refine rg ?_
        refine qv m_add ?_
        refine qv m_mv ?_
        refine ⟨i + 1, ?_, (by simp only; omega), (tl [])⟩
        refine ⟨by omega, fun j hj => ?_⟩
        rcases Nat.lt_or_ge j i with h1 | h1
        · exact hφ0.2 j h1
        · obtain rfl : j = i := by omega
          simpa using hc2
    · try simp at hc1
      refine awp_exit ?_
      show AWp cx _ _ _
      refine awp_seq ?_
      refine rg ?_
      refine qv m_as ?_
      show AWp cx _ _ _
      refine awp_ret ?_
      exact x1 (hr := (rB_ (by symm; rw [decide_eq_true_eq]; exact sg_ext hlab fun j hj => hφ0.2 j (by omega))))
theorem f28 (m : List Int) (hne : m ≠ []) (hl : m.length ≤ 6) (hm : ∀ x ∈ m, 0 ≤ x ∧ x ≤ 50) : ACallsF Tryd.prog 28 [ints m] (.one (.dv (.str (bs (keyL m))))) := by
  refine callsF_of Tryd.func28 rfl rfl (by rw [Tryd.ntmps28]; simp) fun cx hP hn hg => ?_
  rw [Tryd.ntmps28] at hn
  rw [startF_lk, none_mkM]
  simp only [List.nil_append, List.append_nil, List.cons_append, zipSV, Nat.reduceAdd]
  refine awp_seq ?_
  refine rg ?_
  refine qv m_as ?_
  show AWp cx _ _ _
  refine awp_seq ?_
  refine rg ?_
  refine qv m_as ?_
  show AWp cx _ _ _
  refine awp_seq ?_
  refine awp_seq ?_
  refine rg ?_
  refine qv m_mv ?_
  refine qv (m_len il25) ?_
  refine qv m_mv ?_
  show AWp cx _ _ _
  refine awp_block ?_
  refine awp_loop (ι := Nat) (fun i => ⟨lk [(3, .sl 3 0 0 i), (6, .dv (ints (m))), (7, .dv (i64 ((m.length : Int)))), (8, .dv (i64 (i : Nat)))], mkM [(3, 0, some (rowX (tkL m i)))]⟩) (fun i => i ≤ m.length) (fun i => m.length - i) 0 (by simp) (tl [] (hF := by simp [FLe, svLe, lk, mkM, isLive, tauL, tkL_zero]) (hM := by simp [MLe, blkLe, svLe, svLes, lk, mkM, isLive, tauL, svLes_ints, svLes_self, isDvs, isDvs_map, isDvs_app, isDvs_take, isDvs_set, isDvs_repl, tkL_zero])) ?_
  intro i hφ0
  refine awp_seq ?_
  refine rg ?_
  refine qv m_lss ?_
  show AWp cx _ _ _
  refine awp_seq ?_
  refine cd (fun hc0 => ?_) (fun hc0 => ?_)
  · try simp at hc0
    refine awp_skip ?_
    show AWp cx _ _ _
    refine awp_seq ?_
    refine awp_block ?_
    refine awp_seq ?_
    refine rg ?_
    have hin : i < m.length := by omega
    have hgi := sg_get hin
    have hb := hm _ (List.mem_of_getElem? hgi)
    have htt := tkL_succ hgi
    have htl := tkL_len hφ0
    first | refine qv (m_ixN el25 sz3) ?_ | refine qv (m_ix el25 sz3) ?_
    refine qv (m_ld sz3 ag3) ?_
    refine qv m_as ?_
    show AWp cx _ _ _
    refine rg ?_
    refine qv m_mv ?_
    refine qv m_mv ?_
    refine qqF (f35 (sg m i) (by omega) (by omega)) ?_
    refine qr (m_bsl el64 ze9 sz9) ?_
    refine qa1 (m_app1 el64 el64 ze9 sz9 by9 (hc := tx_snoc)) ?_
    refine qv m_as ?_
    show AWp cx _ _ _
    refine rg ?_
    refine qv m_add ?_
    refine qv m_mv ?_
    exact ⟨i + 1, hin, (by simp only; omega), (tl [(3, 16)] (hF := by simp [FLe, svLe, lk, mkM, isLive, tauL, svLes_txs, htt]) (hM := by simp [MLe, blkLe, svLe, svLes, lk, mkM, isLive, tauL, svLes_ints, svLes_self, isDvs, isDvs_map, isDvs_app, isDvs_take, isDvs_set, isDvs_repl, svLes_txs, htt]))⟩
  · try simp at hc0
    refine awp_exit ?_
    show AWp cx _ _ _
    refine awp_seq ?_
    refine rg ?_
    have hte : tkL m i = m.map dg := tkL_all (by omega)
    have hkl := key_len hm
    refine qv m_mv ?_
    refine qqF (f36 (m.map dg) [32] (by simpa using hne) (by rw [List.length_map]; omega) (by show (keyL m).length ≤ _; omega)) ?_ (ha := (args_cons (data_txs (L := m.map dg) (by simp only [mkM, reduceIte, Nat.reduceEqDiff, hte] <;> rfl) trivial (by rw [List.length_map]; omega) (fun _ => trivial)) (args_cons data_dv args_nil)))
    refine qv m_as ?_
    show AWp cx _ _ _
    refine awp_ret ?_
    exact x1 (hr := (rS_))
end Go.Ab.Tryd
set_option linter.all false
namespace Go.Ab.Tryd
open Go Go.Ab Go.Proofs
theorem sep_inj : ∀ {x y r r' : List UInt8}, (32 : UInt8) ∉ x → (32 : UInt8) ∉ y → x ++ 32 :: r = y ++ 32 :: r' → x = y ∧ r = r'
  | [], [], _, _, _, _, h => ⟨rfl, by simpa using h⟩
  | [], c :: y, _, _, _, hy, h => by
    simp only [List.nil_append, List.cons_append, List.cons.injEq] at h
    exact absurd (by simp [h.1]) hy
  | c :: x, [], _, _, hx, _, h => by
    simp only [List.nil_append, List.cons_append, List.cons.injEq] at h
    exact absurd (by simp [h.1]) hx
  | c :: x, d :: y, r, r', hx, hy, h => by
    simp only [List.cons_append, List.cons.injEq] at h
    obtain ⟨h1, h2⟩ := sep_inj (fun e => hx (List.mem_cons_of_mem _ e)) (fun e => hy (List.mem_cons_of_mem _ e)) h.2
    exact ⟨by rw [h.1, h1], h2⟩
theorem dg_sep {x : Int} (h : 0 ≤ x ∧ x ≤ 50) : (32 : UInt8) ∉ dg x := by
  obtain ⟨n, rfl⟩ : ∃ n : Nat, x = n := ⟨x.toNat, by omega⟩
  have hn : n < 51 := by omega
  have : ∀ n : Fin 51, (32 : UInt8) ∉ dg ((n : Nat) : Int) := by decide +kernel
  exact this ⟨n, hn⟩
theorem dg_inj {x y : Int} (h : 0 ≤ x ∧ x ≤ 50) (h' : 0 ≤ y ∧ y ≤ 50) (e : dg x = dg y) : x = y := by
  obtain ⟨n, rfl⟩ : ∃ n : Nat, x = n := ⟨x.toNat, by omega⟩
  obtain ⟨m, rfl⟩ : ∃ n : Nat, y = n := ⟨y.toNat, by omega⟩
  have hn : n < 51 := by omega
  have hm : m < 51 := by omega
  have : ∀ n m : Fin 51, dg ((n : Nat) : Int) = dg ((m : Nat) : Int) → n = m := by decide +kernel
  have := this ⟨n, hn⟩ ⟨m, hm⟩ e
  have := congrArg Fin.val this
  simp only at this
  omega
def tlK (r : List Int) : Tx := Lib.joinTail [32] (r.map dg)
theorem tlK_cons {y : Int} {r : List Int} : tlK (y :: r) = 32 :: (dg y ++ tlK r) := by simp [tlK, Lib.joinTail]
theorem keyL_cons {y : Int} {r : List Int} : keyL (y :: r) = dg y ++ tlK r := by unfold keyL tlK; rw [List.map_cons, Lib.join_cons]
theorem tl_inj : ∀ {a b : List Int} {x y : Int}, (∀ z ∈ x :: a, 0 ≤ z ∧ z ≤ 50) → (∀ z ∈ y :: b, 0 ≤ z ∧ z ≤ 50) → a.length = b.length → dg x ++ tlK a = dg y ++ tlK b → x = y ∧ a = b
  | [], [], x, y, ha, hb, _, h => ⟨dg_inj (ha x (by simp)) (hb y (by simp)) (by simpa [tlK, Lib.joinTail] using h), rfl⟩
  | [], _ :: _, _, _, _, _, hl, _ => by simp at hl
  | _ :: _, [], _, _, _, _, hl, _ => by simp at hl
  | p :: a, q :: b, x, y, ha, hb, hl, h => by
    rw [tlK_cons, tlK_cons] at h
    obtain ⟨h1, h2⟩ := sep_inj (dg_sep (ha x (by simp))) (dg_sep (hb y (by simp))) h
    obtain ⟨h3, h4⟩ := tl_inj (fun z hz => ha z (List.mem_cons_of_mem _ hz)) (fun z hz => hb z (List.mem_cons_of_mem _ hz)) (by simpa using hl) h2
    exact ⟨dg_inj (ha x (by simp)) (hb y (by simp)) h1, by rw [h3, h4]⟩
theorem key_inj {a b : List Int} (ha : ∀ z ∈ a, 0 ≤ z ∧ z ≤ 50) (hb : ∀ z ∈ b, 0 ≤ z ∧ z ≤ 50) (hl : a.length = b.length) (h : keyL a = keyL b) : a = b := by
  cases a with
  | nil => cases b with
    | nil => rfl
    | cons _ _ => simp at hl
  | cons x a => cases b with
    | nil => simp at hl
    | cons y b =>
      rw [keyL_cons, keyL_cons] at h
      obtain ⟨h1, h2⟩ := tl_inj ha hb (by simpa using hl) h
      rw [h1, h2]
end Go.Ab.Tryd
set_option linter.all false
namespace Go.Ab
open Go.RowKit Go.Conc.Locks
section
variable {cx : Cx} {S S1 : St}
end
end Go.Ab
set_option linter.all false
namespace Go.Ab
open Go.RowKit
def Cx.onM (cx : Cx) (b : Nat) (w : World) : Cx := { cx with w0 := w, Wr := fun k => (cx.w0.heap.size ≤ k ∨ cx.Wr k) ∧ k ≠ b }
section
variable {cx : Cx} {S S' : St} {a : Act} {w w1 : World} {μ : Nat → Option (Nat × Nat)} {b : Nat} {o : Obj}
theorem onM_good (hg : cx.Good) (hb : BelowW cx.Wr cx.w0 w) : (cx.onM b w).Good := by
  refine ⟨fun k hk => ?_, hg.2.1.keep fun g hk => hb.block g (hg.2.1.lt hk) (hg.2.2 g hk).2, fun g hk => ⟨(hg.2.2 g hk).1, ?_⟩⟩
  · obtain ⟨h1, h2⟩ := hg.1 k hk
    refine ⟨Nat.lt_of_lt_of_le h1 hb.size, ?_⟩
    rintro ⟨h3 | h3, _⟩
    · omega
    · exact h2 h3
  · rintro ⟨h3 | h3, _⟩
    · have := hg.2.1.lt hk; omega
    · exact (hg.2.2 g hk).2 h3
theorem onM_sim (h : SimU cx S a w μ) (ho : w.heap[b]? = some o) (hc : o.isCells = false) : SimU (cx.onM b w) S a w μ := by
  refine ⟨h.blk, h.slot, fun t g blk k cap e hm => ⟨.inr ⟨(h.place t g blk k cap e hm).1, fun hk => ?_⟩, (h.place t g blk k cap e hm).2⟩, h.uniq, h.anc, BelowW.refl _ _, h.size, h.defers⟩
  subst hk
  have hb := h.blk t g blk e
  unfold BlkRep at hb
  rw [hm] at hb
  obtain ⟨cur, h1, _⟩ := hb
  rw [ho] at h1
  cases h1
  cases hc
theorem onM_back (h : SimU (cx.onM b w1) S a w μ) (hb : BelowW cx.Wr cx.w0 w1) : SimU cx S a w μ := by
  refine ⟨h.blk, h.slot, fun t g blk k cap e hm => ⟨?_, (h.place t g blk k cap e hm).2⟩, h.uniq, h.anc, hb.then h.below fun i hi hw => ?_, h.size, h.defers⟩
  · rcases (h.place t g blk k cap e hm).1 with h1 | h1
    · exact .inl (Nat.le_trans hb.size h1)
    · exact h1.1
  · rintro ⟨h3 | h3, _⟩
    · omega
    · exact hw h3
theorem onM_obj (h : SimU (cx.onM b w1) S a w μ) (ho : w1.heap[b]? = some o) : w.heap[b]? = some o :=
  (h.below.block b (Array.getElem?_eq_some_iff.1 ho).1 fun h1 => h1.2 rfl).trans ho
def PostB (cx : Cx) (b : Nat) (K : Exit → St → Obj → Prop) (e : Exit) (a' : Act) (w' : World) : Prop :=
  (∃ S' o', Sim cx S' a' w' ∧ w'.heap[b]? = some o' ∧ o'.isCells = false ∧ K e S' o') ∨ (e = .ret ∧ cx.fin a' w')
def AWpB (cx : Cx) (b : Nat) (c : Code) (K : Exit → St → Obj → Prop) (S : St) (o : Obj) : Prop :=
  ∀ a w, Sim cx S a w → w.heap[b]? = some o → o.isCells = false → c.wpIn cx.fence 0 cx.P (PostB cx b K) a w
theorem awpB_of (hg : cx.Good) {c : Code} {K : Exit → St → Obj → Prop} (h : ∀ w, (cx.onM b w).Good → w.heap[b]? = some o → AWp (cx.onM b w) c (fun e S' => K e S' o) S) : AWpB cx b c K S o := by
  rintro a w ⟨μ, hs⟩ ho hc
  have h1 := h w (onM_good hg hs.below) ho a w ⟨μ, onM_sim hs ho hc⟩
  refine wpIn_mono h1 ?_
  rintro e a' w' (⟨S', ⟨μ', h2⟩, h3⟩ | h4)
  · exact .inl ⟨S', o, ⟨μ', onM_back h2 hs.below⟩, onM_obj h2 ho, hc, h3⟩
  · exact .inr h4
theorem AWpB.mono {c : Code} {K K' : Exit → St → Obj → Prop} (h : AWpB cx b c K S o) (hk : ∀ e S o, K e S o → K' e S o) : AWpB cx b c K' S o :=
  fun a w hs ho hc => wpIn_mono (h a w hs ho hc) fun e a' w' h1 => h1.imp (fun ⟨S', o', h1, h2, h3, h4⟩ => ⟨S', o', h1, h2, h3, hk e S' o' h4⟩) id
theorem AWpB.le {c : Code} {K : Exit → St → Obj → Prop} {S0 : St} (hl : Le cx S S0) (h : AWpB cx b c K S0 o) : AWpB cx b c K S o := fun a w hs => h a w (hl a w hs)
def seqKB (cx : Cx) (b : Nat) (y : Code) (K : Exit → St → Obj → Prop) : Exit → St → Obj → Prop
  | .normal, S, o => AWpB cx b y K S o
  | e, S, o => K e S o
theorem awpB_seq {x y : Code} {K : Exit → St → Obj → Prop} (h : AWpB cx b x (seqKB cx b y K) S o) : AWpB cx b (.seq x y) K S o := by
  intro a w hs ho hc
  refine wpIn_seq (wpIn_mono (h a w hs ho hc) ?_)
  rintro e a' w' (⟨S', o', h1, h2, h3, h4⟩ | ⟨rfl, hf⟩)
  · cases e with
    | normal => exact h4 a' w' h1 h2 h3
    | _ => exact .inl ⟨S', o', h1, h2, h3, h4⟩
  · exact .inr ⟨rfl, hf⟩
theorem awpB_cond {c : Operand} {x y : Code} {v : Bool} {K : Exit → St → Obj → Prop} (hv : S.ev c = .dv (.bool v)) (ht : v = true → AWpB cx b x K S o) (hf : v = false → AWpB cx b y K S o) : AWpB cx b (.cond c x y) K S o := by
  intro a w hs ho hc
  obtain ⟨μ, h⟩ := hs
  have := h.ev c
  rw [hv] at this
  simp only [SVRep] at this
  generalize hx : a.eval c = u at this
  cases this
  exact wpIn_cond_split hx (fun hb => ht hb a w ⟨μ, h⟩ ho hc) (fun hb => hf hb a w ⟨μ, h⟩ ho hc)
def blockKB (id : Nat) (K : Exit → St → Obj → Prop) : Exit → St → Obj → Prop
  | .exit id', S, o => if id' = id then K .normal S o else K (.exit id') S o
  | e, S, o => K e S o
theorem awpB_block {id : Nat} {c : Code} {K : Exit → St → Obj → Prop} (h : AWpB cx b c (blockKB id K) S o) : AWpB cx b (.block id c) K S o := by
  intro a w hs ho hc
  refine wpIn_block (wpIn_mono (h a w hs ho hc) ?_)
  rintro e a' w' (⟨S', o', h1, h2, h3, h4⟩ | ⟨rfl, hf⟩)
  · cases e with
    | exit id' =>
      simp only [blockKB] at h4
      simp only [Exit.inBlock]
      split at h4
      · rename_i e; rw [if_pos e]; exact .inl ⟨S', o', h1, h2, h3, h4⟩
      · rename_i e; rw [if_neg e]; exact .inl ⟨S', o', h1, h2, h3, h4⟩
    | _ => exact .inl ⟨S', o', h1, h2, h3, h4⟩
  · exact .inr ⟨rfl, hf⟩
theorem awpB_exit {id : Nat} {K : Exit → St → Obj → Prop} (h : K (.exit id) S o) : AWpB cx b (.exit id) K S o := fun _ _ hs ho hc => wpIn_exit (.inl ⟨S, o, hs, ho, hc, h⟩)
theorem awpB_ret {K : Exit → St → Obj → Prop} (h : K .ret S o) : AWpB cx b .ret K S o := fun _ _ hs ho hc => wpIn_ret (.inl ⟨S, o, hs, ho, hc, h⟩)
theorem awpB_skip {K : Exit → St → Obj → Prop} (h : K .normal S o) : AWpB cx b .skip K S o := fun _ _ hs ho hc => wpIn_skip (.inl ⟨S, o, hs, ho, hc, h⟩)
def loopKB {ι : Type} (cx : Cx) (inv : ι → St) (φ : ι → Obj → Prop) (m : ι → Nat) (i : ι) (K : Exit → St → Obj → Prop) : Exit → St → Obj → Prop
  | .normal, S, o => ∃ j, φ j o ∧ m j < m i ∧ Le cx S (inv j)
  | e, S, o => K e S o
theorem awpB_loop {ι : Type} {body : Code} {K : Exit → St → Obj → Prop} (inv : ι → St) (φ : ι → Obj → Prop) (m : ι → Nat) (i : ι) (hi : φ i o) (hs : Le cx S (inv i))
    (round : ∀ i o, φ i o → AWpB cx b body (loopKB cx inv φ m i K) (inv i) o) : AWpB cx b (.loop body) K S o := by
  intro a w h ho hc
  refine loop_ghost (fun n a w => ∃ i o, φ i o ∧ m i = n ∧ Sim cx (inv i) a w ∧ w.heap[b]? = some o ∧ o.isCells = false) (m i) ⟨i, o, hi, rfl, hs a w h, ho, hc⟩ ?_
  rintro n a w ⟨i, o, hi, rfl, h, ho, hc⟩
  refine wpIn_mono (round i o hi a w h ho hc) ?_
  rintro e a' w' (⟨S', o', h1, h2, h3, h4⟩ | ⟨rfl, hf⟩)
  · cases e with
    | normal =>
      obtain ⟨j, hj, hlt, hle⟩ := h4
      exact ⟨m j, hlt, j, o', hj, rfl, hle a' w' h1, h2, h3⟩
    | _ => exact .inl ⟨S', o', h1, h2, h3, h4⟩
  · exact .inr ⟨rfl, hf⟩
theorem awp_openB {x y : Code} {K : Exit → St → Prop} (h : ∀ a w, Sim cx S a w → x.wpIn cx.fence 0 cx.P (fun e a' w' => e = .normal ∧ ∃ b o S', Sim cx S' a' w' ∧ w'.heap[b]? = some o ∧ o.isCells = false ∧ AWpB cx b y (fun e S _ => K e S) S' o) a w) : AWp cx (.seq x y) K S := by
  intro a w hs
  refine wpIn_seq (wpIn_mono (h a w hs) ?_)
  rintro e a' w' ⟨rfl, b, o, S', h1, h2, h3, h4⟩
  refine wpIn_mono (h4 a' w' h1 h2 h3) ?_
  rintro e a2 w2 (⟨S2, o2, k1, _, _, k4⟩ | k)
  · exact .inl ⟨S2, k1, k4⟩
  · exact .inr k
end
end Go.Ab
set_option linter.all false
namespace Go.Ab
open Go.RowKit
section
variable {cx : Cx} {S : St} {ops : Array Oper} {o : Oper} {rest : List Oper} {K : St → Prop} {l : List (Nat × SV)} {m : List (Nat × Nat × Option Blk)}
end
end Go.Ab
set_option linter.all false
namespace Go.Ab
open Go.RowKit Go.ChangeMaps Go.MapKept
section
variable {cx : Cx} {ops : Array Oper} {Q : Exit → Act → World → Prop} {rest : List Oper} {o : Oper} {a : Act} {w w' : World} {v : Value} {n : Nat}
theorem wlv (hg : o.guard = none) (hnd : ∀ c, o.op ≠ .defer c) (hr : (execOp a.eval o).run cx.P w = .ok (.value v) w') (k : wpListIn cx.fence n cx.P ops Q rest (a.put o.dst v) w') : wpListIn cx.fence n cx.P ops Q (o :: rest) a w := by
  unfold wpListIn
  rw [if_pos (by simp [Region.wanted, hg])]
  refine ⟨fun _ _ => trivial, ?_⟩
  rw [Oper.semAt_eq _ _ _ hnd, hr]
  exact k
theorem wls (hg : o.guard = none) (hnd : ∀ c, o.op ≠ .defer c) (hr : (execOp a.eval o).run cx.P w = .ok .skip w') (k : wpListIn cx.fence n cx.P ops Q rest (a.put o.dst undef) w') : wpListIn cx.fence n cx.P ops Q (o :: rest) a w := by
  unfold wpListIn
  rw [if_pos (by simp [Region.wanted, hg])]
  refine ⟨fun _ _ => trivial, ?_⟩
  rw [Oper.semAt_eq _ _ _ hnd, hr]
  exact k
end
theorem rep_strM {w : World} {X : Nat → Prop} {s : ByteArray} {v : Value} (h : RepD w X (.str s) v) : v = .string s := by cases h; rfl
section
variable {w w' : World} {b0 : Nat} {o : Obj}
theorem cell_none (ho : w.heap[b0]? = some o) (hc : o.isCells = false) (i : Nat) : w.cell? ⟨b0, i, none⟩ = none := by
  cases o <;> first | (simp [Obj.isCells] at hc; done) | (simp [World.cell?, ho]; done) | (simp [World.cell?, ho]; rfl)
theorem RepD.mturn (hs : w.heap.size ≤ w'.heap.size) (hk : ∀ k, k ≠ b0 → w'.heap[k]? = w.heap[k]?) (hc : ∀ i, w.cell? ⟨b0, i, none⟩ = none) {X : Nat → Prop} {d : DV} {v : Value} (h : RepD w X d v) : RepD w' X d v := by
  have cell : ∀ (b i : Nat) (u : Value), w.cell? ⟨b, i, none⟩ = some u → w'.cell? ⟨b, i, none⟩ = some u := fun b i u hu => by
    have hb : b ≠ b0 := fun e => by subst e; rw [hc i] at hu; cases hu
    rw [cell_of_heap (hk b hb)]; exact hu
  induction h with
  | bool b => exact .bool b
  | int k n => exact .int k n
  | str s => exact .str s
  | nilptr => exact .nilptr
  | nilfn => exact .nilfn
  | nilIface => exact .nilIface
  | iface t d v _ ih => exact .iface t d v ih
  | listNil a cap => exact .listNil a cap
  | list l b off cap esz u hx hb hcap he hcc _ ih => exact .list l b off cap esz u hx (Nat.lt_of_lt_of_le hb hs) hcap he (fun j c hj => cell _ _ _ (hcc j c hj)) ih
  | agg cs vs hsz _ ih => exact .agg cs vs hsz ih
  | cptr cs b off u hx hb hcc _ ih => exact .cptr cs b off u hx (Nat.lt_of_lt_of_le hb hs) (fun j c hj => cell _ _ _ (hcc j c hj)) ih
  | fn f pre caps vp vc h1 h2 _ _ ih1 ih2 => exact .fn f pre caps vp vc h1 h2 ih1 ih2
mutual
theorem SVRep.mturn (hs : w.heap.size ≤ w'.heap.size) (hk : ∀ k, k ≠ b0 → w'.heap[k]? = w.heap[k]?) (hc : ∀ i, w.cell? ⟨b0, i, none⟩ = none) {M : Nat → Nat × Option Blk} {μ : Nat → Option (Nat × Nat)} {X : Nat → Prop} : ∀ (c : SV) (v : Value), SVRep w M μ X c v → SVRep w' M μ X c v
  | .dead, _, _ => trivial
  | .dv _, _, h => by simp only [SVRep] at h ⊢; exact h.mturn hs hk hc
  | .nils, _, h => by simpa only [SVRep] using h
  | .emp b, v, h => by simpa only [SVRep] using h
  | .sl t g off n, v, h => by simpa only [SVRep] using h
  | .pt t g off, v, h => by simpa only [SVRep] using h
  | .agg cs, v, h => by
    simp only [SVRep] at h ⊢
    obtain ⟨vs, rfl, hv⟩ := h
    exact ⟨vs, rfl, SVReps.mturn hs hk hc cs vs hv⟩
  | .tup cs, v, h => by
    simp only [SVRep] at h ⊢
    obtain ⟨vs, rfl, hv⟩ := h
    exact ⟨vs, rfl, SVReps.mturn hs hk hc cs vs hv⟩
  | .val u, v, h => by simpa only [SVRep] using h
theorem SVReps.mturn (hs : w.heap.size ≤ w'.heap.size) (hk : ∀ k, k ≠ b0 → w'.heap[k]? = w.heap[k]?) (hc : ∀ i, w.cell? ⟨b0, i, none⟩ = none) {M : Nat → Nat × Option Blk} {μ : Nat → Option (Nat × Nat)} {X : Nat → Prop} : ∀ (cs : List SV) (vs : List Value), SVReps w M μ X cs vs → SVReps w' M μ X cs vs
  | [], [], _ => trivial
  | [], _ :: _, h => by simp only [SVReps] at h
  | _ :: _, [], h => by simp only [SVReps] at h
  | c :: cs, v :: vs, h => by
    simp only [SVReps] at h ⊢
    exact ⟨SVRep.mturn hs hk hc c v h.1, SVReps.mturn hs hk hc cs vs h.2⟩
end
theorem SimU.mturn {cx : Cx} {S : St} {a : Act} {μ : Nat → Option (Nat × Nat)} (h : SimU cx S a w μ) (ho : w.heap[b0]? = some o) (hc : o.isCells = false) (hn : cx.w0.heap.size ≤ b0)
    (e1 : w'.os = w.os) (e2 : w'.tape = w.tape) (e3 : w'.output = w.output) (e4 : w'.heap.size = w.heap.size) (e5 : ∀ k, k ≠ b0 → w'.heap[k]? = w.heap[k]?) : SimU cx S a w' μ := by
  have hs : w.heap.size ≤ w'.heap.size := by omega
  have hcc := cell_none ho hc
  refine ⟨fun t g blk e => ?_, fun i => SVRep.mturn hs e5 hcc _ _ (h.slot i), fun t g blk b cap e hm => ⟨(h.place t g blk b cap e hm).1, Nat.lt_of_lt_of_le (h.place t g blk b cap e hm).2 hs⟩, h.uniq, h.anc, ?_, h.size, h.defers⟩
  · have hb := h.blk t g blk e
    unfold BlkRep at *
    split at hb
    · exact hb
    · rename_i b cap hm
      obtain ⟨cur, h1, h2, h3, h4, h5⟩ := hb
      have hne : b ≠ b0 := fun e => by subst e; rw [ho] at h1; cases h1; cases hc
      exact ⟨cur, by rw [e5 b hne]; exact h1, h2, fun j c u hj hu => SVRep.mturn hs e5 hcc c u (h3 j c u hj hu), h4, h5⟩
  · exact ⟨e1.trans h.below.os, e2.trans h.below.tape, e3.trans h.below.output, Nat.le_trans h.below.size hs, fun k hk hw => by rw [e5 k (by omega)]; exact h.below.block k hk hw⟩
end
def MapAt (cx : Cx) (b : Nat) (o : Obj) : Prop := cx.w0.heap[b]? = some o ∧ ¬ cx.Wr b
theorem MapAt.at {cx : Cx} {b : Nat} {o : Obj} (h : MapAt cx b o) {S : St} {a : Act} {w : World} (hs : Sim cx S a w) : w.heap[b]? = some o := by
  obtain ⟨μ, hs⟩ := hs
  rw [hs.below.block b (Array.getElem?_eq_some_iff.1 h.1).1 h.2]; exact h.1
section
variable {cx : Cx} {b : Nat} {S S' S1 : St} {o o' : Obj} {ops : Array Oper} {op : Oper} {rest : List Oper} {P : Program} {N : Nat}
def StepB (cx : Cx) (b : Nat) (ops : Array Oper) (op : Oper) (S : St) (o : Obj) (S' : St) (o' : Obj) : Prop :=
  ∀ a w, Sim cx S a w → w.heap[b]? = some o → o.isCells = false → ∀ n Q rest, (∀ a' w', Sim cx S' a' w' → w'.heap[b]? = some o' → o'.isCells = false → wpListIn cx.fence n cx.P ops Q rest a' w') → wpListIn cx.fence n cx.P ops Q (op :: rest) a w
def ChainB (cx : Cx) (b : Nat) (ops : Array Oper) (l : List Oper) (S : St) (o : Obj) (K : St → Obj → Prop) : Prop :=
  ∀ a w, Sim cx S a w → w.heap[b]? = some o → o.isCells = false → ∀ n Q, (∀ S a w o, Sim cx S a w → w.heap[b]? = some o → o.isCells = false → K S o → Q .normal a w) → wpListIn cx.fence n cx.P ops Q l a w
theorem stepB_plain (hg : cx.Good) (h : ∀ cx', cx'.Good → cx'.P = cx.P → cx'.n = cx.n → MapAt cx' b o → GStep cx' ops S op S') : StepB cx b ops op S o S' o := by
  intro a w hs ho hc n Q rest k
  obtain ⟨μ, hs⟩ := hs
  have hg' := onM_good (b := b) hg hs.below
  have hs' : Sim (cx.onM b w) S a w := ⟨μ, onM_sim hs ho hc⟩
  have hst := h (cx.onM b w) hg' rfl rfl ⟨ho, fun h1 => h1.2 rfl⟩
  have back : ∀ a' w', Sim (cx.onM b w) S' a' w' → wpListIn cx.fence n cx.P ops Q rest a' w' := fun a' w' ⟨μ', h1⟩ => k a' w' ⟨μ', onM_back h1 hs.below⟩ (onM_obj h1 ho) hc
  unfold wpListIn
  rcases gstep_cases hg' hs' hst with ⟨h1, h2⟩ | ⟨h1, h2⟩
  · rw [if_pos h1]
    exact Oper.wpIn_mono (fun a' w' h' => back a' w' h') (h2.wpIn hs' n Q)
  · rw [if_neg (by simp [h1])]
    exact ⟨fun _ _ => trivial, back _ w h2⟩
theorem awpB_chain {id : Nat} {lo : List Oper} {K : Exit → St → Obj → Prop} (h : ChainB cx b lo.toArray lo S o fun S' o' => K .normal S' o') : AWpB cx b (.region id lo.toArray false) K S o :=
  fun a w hs ho hc => wpIn_region_list (h a w hs ho hc 0 _ fun S' a' w' o' h1 h2 h3 h4 => .inl ⟨S', o', h1, h2, h3, h4⟩)
theorem cb {K : St → Obj → Prop} (h : ∀ cx', cx'.Good → cx'.P = P → cx'.n = N → MapAt cx' b o → Chain cx' ops [op] S (fun S' => S' = S1)) (k : ChainB cx b ops rest S1 o K) (hg : cx.Good := by assumption) (hP : cx.P = P := by assumption) (hn : cx.n = N := by assumption) : ChainB cx b ops (op :: rest) S o K := by
  subst hP; subst hn
  have st : StepB cx b ops op S o S1 o := stepB_plain hg fun cx' h1 h2 h3 h4 => by
    obtain ⟨S', h5, h6⟩ := h cx' h1 h2 h3 h4
    have h6 : S' = S1 := h6
    subst h6; exact h5
  exact fun a w hs ho hc n Q hQ => st a w hs ho hc n Q rest fun a' w' h1 h2 h3 => k a' w' h1 h2 h3 n Q hQ
theorem cb_end {K : St → Obj → Prop} (h : K S o) : ChainB cx b ops [] S o K := fun a w hs ho hc n Q hQ => hQ S a w o hs ho hc h
theorem rgB {id : Nat} {lo : List Oper} {K : Exit → St → Obj → Prop} (h : ∀ cx', cx'.Good → cx'.P = P → cx'.n = N → MapAt cx' b o → Chain cx' lo.toArray lo S fun S' => K .normal S' o) (hg : cx.Good := by assumption) (hP : cx.P = P := by assumption) (hn : cx.n = N := by assumption) : AWpB cx b (.region id lo.toArray false) K S o := by
  subst hP; subst hn
  exact awpB_of hg fun w hgw ho => awp_reg hgw (h (cx.onM b w) hgw rfl rfl ⟨ho, fun h1 => h1.2 rfl⟩)
theorem rdB {id : Nat} {lo : List Oper} {K : Exit → St → Obj → Prop} {F : Nat → SV} {mm : List (Nat × Nat × Option Blk)} (hm : P.follows .mixedOrders = true) (h : ∀ cx', cx'.Good → cx'.P = P → cx'.n = N → MapAt cx' b o → DChain cx' lo.toArray lo [] ⟨F, mkM mm⟩ fun its S' => freeC .any lo.toArray mm its (ancs .any lo []) = true ∧ K .normal S' o)
    (hb : backB .any lo 0 = true := by decide) (hg : cx.Good := by assumption) (hP : cx.P = P := by assumption) (hn : cx.n = N := by assumption) : AWpB cx b (.region id lo.toArray true) K ⟨F, mkM mm⟩ o := by
  subst hP; subst hn
  exact awpB_of hg fun w hgw ho => rd (P := cx.P) (cx := cx.onM b w) hm (h (cx.onM b w) hgw rfl rfl ⟨ho, fun h1 => h1.2 rfl⟩) hb hgw rfl
theorem cdB {c' : Operand} {x y : Code} {b' : Bool} {K : Exit → St → Obj → Prop} (ht : b' = true → AWpB cx b x K S o) (hf : b' = false → AWpB cx b y K S o) (hc : S.ev c' = .dv (.bool b') := by (simp only [St.look, St.ev, lk, mkM, blkOf, svOf, svOfCell, reduceIte, Nat.reduceAdd, Nat.reduceEqDiff, Nat.reduceMul] <;> rfl)) : AWpB cx b (.cond c' x y) K S o := awpB_cond hc ht hf
theorem cdFB {c' : Operand} {x y : Code} {b' : Bool} {K : Exit → St → Obj → Prop} (hc : S.ev c' = .dv (.bool b') := by (simp only [St.look, St.ev, lk, mkM, blkOf, svOf, svOfCell, reduceIte, Nat.reduceAdd, Nat.reduceEqDiff, Nat.reduceMul] <;> rfl)) (hb : b' = false) (ht : AWpB cx b y K S o) : AWpB cx b (.cond c' x y) K S o := awpB_cond hc (fun h => by rw [hb] at h; cases h) (fun _ => ht)
theorem q_look {l : List (Nat × SV)} {m : List (Nat × Nat × Option Blk)} {K : St → Prop} {d : Nat} {t ty : TypeId} {x y : Operand} {p : String} {af : Array Edge} {gd : Option (Nat × Bool)} {s : ByteArray} {c : Bool} (hm : MapAt cx b o) (hlk : ∀ w, w.heap[b]? = some o → (Instr.lookup t (.map (some b)) (.string s) false).run P w = .ok (.bool c) w)
    (kk : Chain cx ops rest ⟨lk ((d, .dv (.bool c)) :: l), mkM m⟩ K)
    (hx : St.ev ⟨lk l, mkM m⟩ x = .val (.map (some b)) := by (simp only [St.look, St.ev, lk, mkM, blkOf, svOf, svOfCell, reduceIte, Nat.reduceAdd, Nat.reduceEqDiff, Nat.reduceMul] <;> rfl)) (hy : St.ev ⟨lk l, mkM m⟩ y = .dv (.str s) := by (simp only [St.look, St.ev, lk, mkM, blkOf, svOf, svOfCell, reduceIte, Nat.reduceAdd, Nat.reduceEqDiff, Nat.reduceMul] <;> rfl))
    (hP : cx.P = P := by assumption) (hn : cx.n = N := by assumption) (hd : d < N := by decide) (hgd : GOk ops ⟨lk l, mkM m⟩ gd := by (first | exact trivial | exact ⟨_, rfl, by (simp only [lk, reduceIte, Nat.reduceEqDiff])⟩)) : Chain cx ops (⟨some d, .lookup t x y false, ty, p, af, gd⟩ :: rest) ⟨lk l, mkM m⟩ K := by
  refine ⟨⟨lk ((d, .dv (.bool c)) :: l), mkM m⟩, ?_, kk⟩
  have st : Step cx ⟨lk l, mkM m⟩ ⟨some d, .lookup t x y false, ty, p, af, gd⟩ ⟨lk ((d, .dv (.bool c)) :: l), mkM m⟩ := by
    refine .sem fun hg a w hs => ?_
    have hw := hm.at hs
    obtain ⟨μ, h⟩ := hs
    have h1 := h.ev x
    have h2 := h.ev y
    rw [hx] at h1
    rw [hy] at h2
    simp only [SVRep] at h1 h2
    have h3 : a.eval y = .string s := rep_strM h2
    refine Runs.does ⟨.bool c, w, μ, .inl ?_, ?_⟩
    · show (do pure (Next.value (← Instr.lookup t (a.eval x) (a.eval y) false)) : Sem Next).run cx.P w = _
      rw [hP]
      simp only [Sem.run_bind, h1, h3, hlk w hw, Result.andThen_ok, Sem.run_pure]
    · have := h.set (d := d) (by omega) (r := .dv (.bool c)) (v := .bool c) (by simp only [SVRep]; exact .bool c)
      rw [← upd_lk]; exact this
  unfold GStep
  cases gd with
  | none => exact st
  | some p' =>
    obtain ⟨j, want⟩ := p'
    obtain ⟨s', e1, e2⟩ := hgd
    exact ⟨s', e1, .inl ⟨e2, st⟩⟩
theorem cb_upd {l : List (Nat × SV)} {m : List (Nat × Nat × Option Blk)} {K : St → Obj → Prop} {t ty : TypeId} {x y z : Operand} {p : String} {af : Array Edge} {s : ByteArray} {val : Value} {opn : Op} {Φ : Obj → Prop} (hop : opn = .insert t x y z ∨ opn = .mapUpdate t x y z) (hbn : cx.w0.heap.size ≤ b)
    (hup : ∀ w, w.heap[b]? = some o → ∃ w' o', (Instr.mapUpdate t (.map (some b)) (.string s) val).run P w = .ok () w' ∧ w.mapTurned w' b ∧ w'.heap[b]? = some o' ∧ o'.isCells = false ∧ Φ o')
    (kk : ∀ o', Φ o' → ChainB cx b ops rest ⟨lk l, mkM m⟩ o' K)
    (hx : St.ev ⟨lk l, mkM m⟩ x = .val (.map (some b)) := by (simp only [St.look, St.ev, lk, mkM, blkOf, svOf, svOfCell, reduceIte, Nat.reduceAdd, Nat.reduceEqDiff, Nat.reduceMul] <;> rfl)) (hy : St.ev ⟨lk l, mkM m⟩ y = .dv (.str s) := by (simp only [St.look, St.ev, lk, mkM, blkOf, svOf, svOfCell, reduceIte, Nat.reduceAdd, Nat.reduceEqDiff, Nat.reduceMul] <;> rfl)) (hz : z = .const val := by rfl) (hP : cx.P = P := by assumption) :
    ChainB cx b ops (⟨none, opn, ty, p, af, none⟩ :: rest) ⟨lk l, mkM m⟩ o K := by
  intro a w hs ho hc n Q hQ
  obtain ⟨μ, h⟩ := hs
  have h1 := h.ev x
  have h2 := h.ev y
  rw [hx] at h1
  rw [hy] at h2
  simp only [SVRep] at h1 h2
  have h3 : a.eval y = .string s := rep_strM h2
  have h4 : a.eval z = val := by rw [hz]; rfl
  obtain ⟨w', o', r1, r2, r3, r4, r5⟩ := hup w ho
  refine wls (w' := w') rfl (fun c => by rcases hop with e | e <;> rw [e] <;> nofun) ?_ ?_
  · have e : (execOp a.eval ⟨none, opn, ty, p, af, none⟩).run cx.P w = (do Instr.mapUpdate t (a.eval x) (a.eval y) (a.eval z); pure Next.skip : Sem Next).run cx.P w := by
      rcases hop with e | e <;> subst e <;> rfl
    rw [e, hP]
    simp only [Sem.run_bind, h1, h3, h4, r1, Result.andThen_ok, Sem.run_pure]
  · obtain ⟨es, clock, es', clock', q1, rfl⟩ := r2
    exact kk o' r5 a (setBlock w b (.map es' clock')) ⟨μ, h.mturn (w' := setBlock w b (.map es' clock')) ho hc hbn rfl rfl rfl (by simp [setBlock]) fun i hi => heap_setBlock_other q1 _ hi⟩ r3 r4 n Q hQ
end
section
variable {cx : Cx} {c : Code} {b : Nat} {o : Obj} {K : Exit → St → Obj → Prop} {l : List (Nat × SV)} {m : List (Nat × Nat × Option Blk)}
theorem awpB_frz (t : Nat) {g : Nat} {bl : Blk} (k : AWpB cx b c K ⟨lk l, mkM ((t, g, some { bl with st := 1 }) :: m)⟩ o) (h0 : mkM m t = (g, some bl) := by (simp only [mkM, reduceIte, Nat.reduceEqDiff] <;> rfl)) (h1 : OwS bl.st ∨ bl.st = 1 := by (first | exact .inl (.inl rfl) | exact .inr rfl)) : AWpB cx b c K ⟨lk l, mkM m⟩ o := by
  refine AWpB.le (Le.freeze (S := ⟨lk l, mkM m⟩) h0 h1) ?_
  rw [upd_mkM]; exact k
theorem awpB_sink (i : Nat) {d : DV} (hD : Data (fun st => st = 1) (fun _ => True) (mkM m) (lk l i) d) (hg : cx.Good) (k : AWpB cx b c K ⟨lk ((i, .dv d) :: l), mkM m⟩ o) : AWpB cx b c K ⟨lk l, mkM m⟩ o := by
  refine AWpB.le (Le.sink (S := ⟨lk l, mkM m⟩) hg hD) ?_
  show AWpB cx b c K ⟨upd (lk l) i (.dv d), mkM m⟩ o
  rw [upd_lk]; exact k
theorem awpB_sinkB (t : Nat) {g : Nat} {bl : Blk} {cs : List SV} (h0 : mkM m t = (g, some bl)) (hc : sinkC (mkM m) bl.cells cs) (hg : cx.Good) (k : AWpB cx b c K ⟨lk l, mkM ((t, g, some { bl with cells := cs }) :: m)⟩ o) : AWpB cx b c K ⟨lk l, mkM m⟩ o := by
  refine AWpB.le (Le.sinkB (S := ⟨lk l, mkM m⟩) hg h0 hc) ?_
  show AWpB cx b c K ⟨lk l, upd (mkM m) t _⟩ o
  rw [upd_mkM]; exact k
end
theorem awp_mk {cx : Cx} {P : Program} {N : Nat} {id d : Nat} {t ty : TypeId} {p : String} {af : Array Edge} {rest : List Oper} {y : Code} {K : Exit → St → Prop} {l : List (Nat × SV)} {m : List (Nat × Nat × Option Blk)}
    (h : ∀ b, cx.w0.heap.size ≤ b → ChainB cx b (⟨some d, .makeMap t none, ty, p, af, none⟩ :: rest).toArray rest ⟨lk ((d, .val (.map (some b))) :: l), mkM m⟩ (.map #[] 0) fun S' o' => AWpB cx b y (fun e S _ => K e S) S' o')
    (hP : cx.P = P := by assumption) (hn : cx.n = N := by assumption) (hd : d < N := by decide) : AWp cx (.seq (.region id (⟨some d, .makeMap t none, ty, p, af, none⟩ :: rest).toArray false) y) K ⟨lk l, mkM m⟩ := by
  refine awp_openB fun a w hs => ?_
  obtain ⟨μ, hs⟩ := hs
  have hb := (Below.refl w.heap.size w).alloc (Nat.le_refl _) (.map #[] 0)
  have h0 : (w.alloc (.map #[] 0)).heap[w.heap.size]? = some (.map #[] 0) := heap_alloc_new w _
  have h2 := (hs.grow hb).set (d := d) (by omega) (r := .val (.map (some w.heap.size))) (v := .map (some w.heap.size)) (by simp only [SVRep])
  refine wpIn_region_list ?_
  show wpListIn cx.fence 0 cx.P _ _ (_ :: _) a w
  refine wlv (v := .map (some w.heap.size)) (w' := w.alloc (.map #[] 0)) rfl (fun c => by nofun) (by rfl) ?_
  refine h w.heap.size hs.below.size _ _ ⟨μ, ?_⟩ h0 rfl 0 _ (fun S2 a2 w2 o2 h1 h2 h3 h4 => ⟨rfl, w.heap.size, o2, S2, h1, h2, h3, h4⟩)
  rw [← upd_lk]; exact h2
end Go.Ab
set_option linter.all false
namespace Go.Ab.Tryd
open Go Go.Ab Go.Proofs Go.RowKit Go.Maps Go.ChangeMaps Go.MapKept
abbrev kL (T : Tx) : Lit := .string T
theorem kL_key (T : Tx) : WideAt.IsKeyLit (kL T) := by first | exact trivial | exact ⟨_, rfl⟩ | simp [WideAt.IsKeyLit]
theorem kL_ne {a b : Tx} (h : a ≠ b) : kL a ≠ kL b := fun e => h (by injection e)
abbrev dT : DataW Unit := .lit (.bool true)
def mapD : List Tx → DataW Unit
  | [] => .map []
  | T :: L => (mapD L).put (kL T) dT
def Rm : Value → Option (DataW Unit × List MemPlace)
  | .bool x => some (.lit (.bool x), [])
  | _ => none
theorem rm_bool (x : Bool) : Rm (.bool x) = some (.lit (.bool x), []) := rfl
theorem mapD_is : ∀ L, IsMap (mapD L)
  | [] => isMap_empty
  | T :: L => (mapD_is L).put _ _
theorem mapD_at (T : Tx) : ∀ L, (mapD L).atKey (kL T) (.lit (.bool false)) = .lit (.bool (decide (T ∈ L)))
  | [] => rfl
  | X :: L => by
    unfold mapD
    by_cases h : T = X
    · subst h
      rw [atKey_put_same (mapD_is L) (kL_key _)]
      simp
    · rw [atKey_put_other (kL_ne h), mapD_at T L]
      simp [h]
def MObj (o : Obj) (n : Nat) (L : List Tx) : Prop := ∃ es clock, o = .map es clock ∧ WideElems.Fit Tryd.prog 9 Rm es clock ∧ es.size ≤ n ∧ mapD L = .map ((es.toList.map (WideElems.rg Tryd.prog 9 Rm)).foldr DataW.insert [])
theorem mobj_nil : MObj (.map #[] 0) 0 [] := ⟨#[], 0, rfl, ⟨by simp, stamped_empty 0, by simp⟩, Nat.le_refl _, rfl⟩
theorem MObj.own {o : Obj} {n : Nat} {L : List Tx} {w : World} {b : Nat} (h : MObj o n L) (ho : w.heap[b]? = some o) : w.ownsMap Tryd.prog 9 Rm b n (mapD L) := by
  obtain ⟨es, clock, rfl, h1, h2, h3⟩ := h
  exact ⟨es, clock, ho, h1, h2, h3⟩
theorem mobj_of {n : Nat} {L : List Tx} {w : World} {b : Nat} (h : w.ownsMap Tryd.prog 9 Rm b n (mapD L)) : ∃ o, w.heap[b]? = some o ∧ o.isCells = false ∧ MObj o n L := by
  obtain ⟨es, clock, h0, h1, h2, h3⟩ := h
  exact ⟨_, h0, rfl, es, clock, rfl, h1, h2, h3⟩
theorem key_tx {T : Tx} (h : T.length < 2000000) : keyOf Tryd.prog 9 (.string (bs T)) = some (kL T) := by
  have := WideMaps.keyOf_string_mk (P := Tryd.prog) Tryd.underlying9 (s := bs T) (by rw [bs_size]; unfold maxLen; omega)
  exact this
theorem plain_bool_inv {v : Value} {z : DataW Unit × List MemPlace} (h : Rm v = some z) : ∃ x, v = .bool x ∧ z = (.lit (.bool x), []) := by
  unfold Rm at h
  split at h
  · exact ⟨_, rfl, (Option.some.inj h).symm⟩
  · cases h
theorem K9 : Keyed Tryd.prog 9 := string_keyed (P := Tryd.prog) Tryd.underlying9
theorem look_run {o : Obj} {n : Nat} {L : List Tx} {w : World} {b : Nat} {T : Tx} (h : MObj o n L) (hT : T.length < 2000000) (ho : w.heap[b]? = some o) : (Instr.lookup 58 (.map (some b)) (.string (bs T)) false).run Tryd.prog w = .ok (.bool (decide (T ∈ L))) w := by
  obtain ⟨v, ps, h1, h2⟩ := (h.own ho).lookup K9 Tryd.underlying58 (Tryd.zeroValue4 w) (rm_bool false) (key_tx hT)
  obtain ⟨x, rfl, h3⟩ := plain_bool_inv h2
  rw [mapD_at] at h3
  have h4 := congrArg Prod.fst h3
  simp only [DataW.lit.injEq, Lit.bool.injEq] at h4
  rw [h1, h4]
theorem upd_run {o : Obj} {n : Nat} {L : List Tx} {w : World} {b : Nat} {T : Tx} (h : MObj o n L) (hn : n < 2000000) (hT : T.length < 2000000) (ho : w.heap[b]? = some o) : ∃ w' o', (Instr.mapUpdate 58 (.map (some b)) (.string (bs T)) (.bool true)).run Tryd.prog w = .ok () w' ∧ w.mapTurned w' b ∧ w'.heap[b]? = some o' ∧ o'.isCells = false ∧ MObj o' (n + 1) (T :: L) := by
  obtain ⟨w', h1, h2, h3⟩ := (h.own ho).store K9 Tryd.underlying58 (by unfold maxLen; omega) (key_tx hT) (rm_bool true)
  obtain ⟨o', h4, h5, h6⟩ := mobj_of (L := T :: L) h2
  exact ⟨w', o', h1, h3, h4, h5, h6⟩
end Go.Ab.Tryd
