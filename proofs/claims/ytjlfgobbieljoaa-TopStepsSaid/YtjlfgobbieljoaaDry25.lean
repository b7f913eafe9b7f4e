/- The functions of the dry laws, part 25. The walks are written by wip/gen/gw.py. -/
import Derived.Test.YtjlfgobbieljoaaDryD
import Derived.Test.YtjlfgobbieljoaaAb44
import Derived.Test.YtjlfgobbieljoaaDryL4
import Derived.Test.YtjlfgobbieljoaaDryT
set_option linter.all false
namespace Go.Ab.Try
open Go Go.Ab Go.Proofs
def RecF (y : Yd) (rec : List Int → Wk → Sk × Bool) (w : Wk) : Prop := ∀ (p' : List Int) (w' : Wk), VM y w'.m → w'.c.length = y.steps.length → (∀ x ∈ w'.c, 0 ≤ x ∧ x ≤ 40) → w'.c.sum < w.c.sum → (p'.length : Int) + w'.c.sum ≤ 1000 →
  ACalls Try.prog 87 [dSk ⟨p', w'.m, w'.c⟩, i64 (y.steps.length : Int), .fn 83 [] [], .fn 86 [] [.cptr [i64 y.places, .list (y.steps.map dStp)]]] (.many [.dv (dSk (rec p' w').1), .dv (.bool (rec p' w').2)])
abbrev skB (L : List SV) : Blk := ⟨L, 0, 86, 0, false⟩
abbrev wkB (w : Wk) : Blk := ⟨[.dv (ints w.m), .dv (ints w.c)], 0, 80, 0, false⟩
set_option maxHeartbeats 4000000 in
theorem f87s (y : Yd) (hv : VYd y) (rec : List Int → Wk → Sk × Bool) (p : List Int) (w : Wk) (hm : VM y w.m) (hl : w.c.length = y.steps.length) (hc : ∀ x ∈ w.c, 0 ≤ x ∧ x ≤ 40) (hp : (p.length : Int) + w.c.sum ≤ 1000)
    (hrec : RecF y rec w) : ACalls Try.prog 87 [dSk ⟨p, w.m, w.c⟩, i64 (y.steps.length : Int), .fn 83 [] [], .fn 86 [] [.cptr [i64 y.places, .list (y.steps.map dStp)]]] (.many [.dv (dSk (firG rec y p w).1), .dv (.bool (firG rec y p w).2)]) := by
  obtain ⟨v1, v2, v3, v4⟩ := validate_ok hv
  have hsum := sum_nonneg fun x hx => (hc x hx).1
  refine callsA_of Try.func87 rfl rfl (by rw [Try.ntmps87]; simp) fun cx hP hn hg => ?_
  rw [Try.ntmps87] at hn
  rw [startF_lk, none_mkM]
  simp only [List.nil_append, List.append_nil, List.cons_append, zipSV, Nat.reduceAdd]
  refine awp_seq ?_
  refine rg ?_
  refine qp m_box ?_
  refine qp (m_al ze86) ?_
  refine qv m_as ?_
  show AWp cx _ _ _
  refine awp_seq ?_
  refine awp_seq ?_
  refine rg ?_
  refine qv m_mv ?_
  refine qv (m_fdp fd86_1) ?_
  refine qv (m_ldpa sz80 ag80) ?_
  have h83 : ACallsF Try.prog 83 ([] ++ [dWk w] ++ []) (.one (.dv (.bool (!w.c.any fun x => decide (0 < x))))) := f83 w (by omega)
  refine qqVF (h83) ?_
  show AWp cx _ _ _
  refine cd (fun hc0 => ?_) (fun hc0 => ?_)
  · skip
    have h0 : doneW w = true := by simpa [doneW] using hc0
    refine awp_seq ?_
    refine rg ?_
    refine qv (m_ldpa sz86 ag86) ?_
    refine qs (m_st sz86) ?_
    refine qv m_as ?_
    show AWp cx _ _ _
    refine awp_ret ?_
    rw [firG_done h0]
    exact x2c (rv := [.cell 8 86, .tmp 9]) (s0 := .dv (dSk ⟨p, w.m, w.c⟩)) (s1 := .dv (.bool true)) (.inr rfl) (by simp only [resSV, loadSV, St.look, St.ev, lk, mkM, blkOf, svOf, svOfCell, reduceIte, Nat.reduceAdd, Nat.reduceEqDiff, Nat.reduceMul, sz86, ag86]; rfl) (retOk_dv (.dv _ trivial)) (retOk_dv (.dv _ trivial))
  · skip
    have h0 : doneW w = false := by simpa [doneW] using hc0
    refine awp_skip ?_
    show AWp cx _ _ _
    refine awp_seq ?_
    refine awp_seq ?_
    refine rg ?_
    refine qv m_mv ?_
    refine qv m_mv ?_
    show AWp cx _ _ _
    refine awp_block ?_
    refine awp_loop (ι := Nat) (fun i => ⟨lk [(1, .dv (i64 ((y.steps.length : Int)))), (2, .dv (.fn 83 [] [])), (3, .dv (.fn 86 [] [.cptr [i64 y.places, .list (y.steps.map dStp)]])), (4, .pt 4 0 0), (8, .pt 8 0 0), (20, .dv (i64 ((y.steps.length : Int)))), (21, .dv (i64 (i : Nat)))], mkM [(4, 0, some ⟨[.dv (ints (((⟨p, w.m, w.c⟩ : Sk)).p)), .dv (ints (((⟨p, w.m, w.c⟩ : Sk)).m)), .dv (ints (((⟨p, w.m, w.c⟩ : Sk)).c))], 0, 86, 0, false⟩), (8, 0, some (skB [.nils, .nils, .nils]))]⟩) (fun i => i ≤ y.steps.length ∧ ∀ j, j < i → tryF rec y p w j = none) (fun i => y.steps.length - i) 0 (by simp) (tl [(4, 4), (8, 8)]) ?_
    intro i hφ0
    refine awp_seq ?_
    refine rg ?_
    refine qv m_lss ?_
    show AWp cx _ _ _
    refine awp_seq ?_
    refine cd (fun hc1 => ?_) (fun hc1 => ?_)
    · try simp at hc1
      refine awp_skip ?_
      show AWp cx _ _ _
      refine awp_seq ?_
      refine awp_block ?_
      refine awp_seq ?_
      refine rg ?_
      refine qv m_mv ?_
      refine qv m_as ?_
      show AWp cx _ _ _
      refine awp_seq ?_
      refine rg ?_
      refine qv m_mv ?_
      refine qv (m_fdp fd86_1) ?_
      refine qv (m_ldpa sz80 ag80) ?_
      refine qv m_mv ?_
      have hk : i < y.steps.length := by omega
      have h86 : ACalls Try.prog 86 ([] ++ [dWk w, i64 (i : Int)] ++ [.cptr [i64 y.places, .list (y.steps.map dStp)]]) (.many [.dv (dWk (nextW y w i).1), .dv (.bool (nextW y w i).2)]) := f86 y hv w i hm hl hc (by omega)
      refine qqVA (h86) ?_
      refine qv m_mv ?_
      refine qv m_ext ?_
      refine qv m_ext ?_
      refine qp (m_al ze80) ?_
      refine qs (m_st sz80) ?_
      refine qv m_as ?_
      show AWp cx _ _ _
      refine awp_seq ?_
      refine awp_seq ?_
      refine rg ?_
      refine qv m_mv ?_
      refine qv m_not ?_
      show AWp cx _ _ _
      refine cd (fun hc2 => ?_) (fun hc2 => ?_)
      · skip
        refine awp_exit ?_
        show AWp cx _ _ _
        refine rg ?_
        refine qv m_add ?_
        refine qv m_mv ?_
        refine ⟨i + 1, ?_, (by simp only; omega), (tl [(4, 4), (8, 8)])⟩
        refine ⟨hk, fun j hj => ?_⟩
        rcases Nat.lt_or_ge j i with h1 | h1
        · exact hφ0.2 j h1
        · obtain rfl : j = i := by omega
          unfold tryF; rw [if_pos (by simpa using hc2)]
      · skip
        have hok : (nextW y w i).2 = true := by simpa using hc2
        have hsz : ¬ sg w.c i = 0 := fun h => by
          have e : nextW y w i = (⟨[], []⟩, false) := by unfold nextW; rw [if_pos h]
          rw [e] at hok; cases hok
        have hnx := nextW_ok (y := y) hsz
        have hne : (doR y w.m i).2 = 0 := by rw [hnx] at hok; simpa using hok
        obtain ⟨a1, a2, a3⟩ := after_vm hv hm (s := (i : Int)) (by omega) (by omega) hne
        have n1 : (nextW y w i).1.m = (doR y w.m i).1 := by rw [hnx]
        have n2 : (nextW y w i).1.c = w.c.set i (sg w.c i - 1) := by rw [hnx]
        have hss := sum_set (c := w.c) (i := i) (v := sg w.c i - 1) (by omega)
        have hcr : ACalls Try.prog 87 ([] ++ [dSk ⟨p ++ [(i : Int)], (nextW y w i).1.m, (nextW y w i).1.c⟩, i64 (y.steps.length : Int), .fn 83 [] [], .fn 86 [] [.cptr [i64 y.places, .list (y.steps.map dStp)]]] ++ []) (.many [.dv (dSk (rec (p ++ [(i : Int)]) (nextW y w i).1).1), .dv (.bool (rec (p ++ [(i : Int)]) (nextW y w i).1).2)]) := hrec (p ++ [(i : Int)]) (nextW y w i).1 (by rw [n1]; exact a1) (by rw [n2]; simp [hl]) (by
          rw [n2]
          intro x hx
          have hg := hc _ (List.mem_of_getElem? (sg_get (l := w.c) (i := i) (by omega)))
          rcases List.mem_or_eq_of_mem_set hx with h | h
          · exact hc x h
          · omega) (by rw [n2, hss]; omega) (by rw [n2, hss]; simp; omega)
        refine awp_skip ?_
        show AWp cx _ _ _
        refine awp_seq ?_
        refine rd mixed ?_
        refine zv (m_fdp fd86_0) ?_
        refine zv (m_ldp sz25 ag25) ?_
        refine zqF (R := []) (f76 p (by omega)) ?_
        refine zv m_mv ?_
        refine zr (m_bsl el25 ze3 sz3) ?_
        refine za1 (m_app1 el25 el25 ze3 sz3 by3) ?_
        refine zv (m_ldpa sz80 ag80) ?_
        refine zv (m_bld pl86 ze86) ?_
        refine zv m_mv ?_
        refine zv m_mv ?_
        refine zv m_mv ?_
        refine zqAZ (t := 40) [40] (by simp only [mkM, reduceIte, Nat.reduceEqDiff] <;> rfl) (.inl (.inl rfl)) (by decide) (by first | rfl | (simp only [St.look, St.ev, lk, mkM, blkOf, svOf, svOfCell, reduceIte, Nat.reduceAdd, Nat.reduceEqDiff, Nat.reduceMul]; done)) (ha := args_cons (data_agg (args_cons (data_ints (L := p ++ [(i : Int)]) (by first | (simp [rst, mkM]; done) | (simp [rst, mkM] <;> rfl)) rfl (by simp) rfl (by simp) (fun _ => trivial)) (args_cons data_dv (args_cons data_dv args_nil)))) (args_cons data_dv (args_cons data_dv (args_cons data_dv args_nil)))) (hc := hcr) (he := rfl) ?_
        refine zv m_mv ?_
        refine zv m_ext ?_
        refine zv m_ext ?_
        refine zp (m_al ze86) ?_
        refine zs (m_st sz86) ?_
        refine zv m_as ?_
        refine ⟨by kernel_rfl, ?_⟩
        show AWp cx _ _ _
        refine awp_seq ?_
        refine rg ?_
        refine qv m_mv ?_
        show AWp cx _ _ _
        refine cd (fun hc3 => ?_) (fun hc3 => ?_)
        · skip
          have hres := firG_some h0 hk hφ0.2 (r := (rec (p ++ [(i : Int)]) (nextW y w i).1).1) (by unfold tryF; rw [if_neg (by rw [hok]; simp), if_pos (by simpa using hc3)])
          refine awp_seq ?_
          refine rg ?_
          refine qv (m_ldpa sz86 ag86) ?_
          refine qs (m_st sz86) ?_
          refine qv m_as ?_
          show AWp cx _ _ _
          refine awp_ret ?_
          rw [hres]
          exact x2c (rv := [.cell 8 86, .tmp 9]) (s0 := .dv (dSk (rec (p ++ [(i : Int)]) (nextW y w i).1).1)) (s1 := .dv (.bool true)) (.inr rfl) (by simp only [resSV, loadSV, St.look, St.ev, lk, mkM, blkOf, svOf, svOfCell, reduceIte, Nat.reduceAdd, Nat.reduceEqDiff, Nat.reduceMul, sz86, ag86]; rfl) (retOk_dv (.dv _ trivial)) (retOk_dv (.dv _ trivial))
        · skip
          refine awp_skip ?_
          show AWp cx _ _ _
          refine rg ?_
          refine qv m_add ?_
          refine qv m_mv ?_
          refine ⟨i + 1, ?_, (by simp only; omega), (tl [(4, 4), (8, 8)])⟩
          refine ⟨hk, fun j hj => ?_⟩
          rcases Nat.lt_or_ge j i with h1 | h1
          · exact hφ0.2 j h1
          · obtain rfl : j = i := by omega
            unfold tryF; rw [if_neg (by simpa using hc2), if_neg (by simpa using hc3)]
    · try simp at hc1
      obtain ⟨q1, q2⟩ := hφ0
      obtain rfl : i = y.steps.length := by omega
      have hres := firG_none h0 q2
      refine awp_exit ?_
      show AWp cx _ _ _
      refine awp_seq ?_
      refine rg ?_
      refine qv (m_bld pl86 ze86) ?_
      refine qs (m_st sz86) ?_
      refine qv m_as ?_
      show AWp cx _ _ _
      refine awp_ret ?_
      rw [hres]
      exact x2c (rv := [.cell 8 86, .tmp 9]) (s0 := .agg [.nils, .nils, .nils]) (s1 := .dv (.bool false)) (.inr rfl) (by simp only [resSV, loadSV, St.look, St.ev, lk, mkM, blkOf, svOf, svOfCell, reduceIte, Nat.reduceAdd, Nat.reduceEqDiff, Nat.reduceMul, sz86, ag86]; rfl) (.agg _ _ rfl fun j s c hs hd => by match j, hs, hd with | 0, hs, hd => cases hs; cases hd; exact .nils | 1, hs, hd => cases hs; cases hd; exact .nils | 2, hs, hd => cases hs; cases hd; exact .nils) (retOk_dv (.dv _ trivial))
theorem f87 (y : Yd) (hv : VYd y) : ∀ (n : Nat) (p : List Int) (w : Wk), VM y w.m → w.c.length = y.steps.length → (∀ x ∈ w.c, 0 ≤ x ∧ x ≤ 40) → (p.length : Int) + w.c.sum ≤ 1000 → w.c.sum ≤ n → ACalls Try.prog 87 [dSk ⟨p, w.m, w.c⟩, i64 (y.steps.length : Int), .fn 83 [] [], .fn 86 [] [.cptr [i64 y.places, .list (y.steps.map dStp)]]] (.many [.dv (dSk (firF y n p w).1), .dv (.bool (firF y n p w).2)])
  | 0, p, w, hm, hl, hc, hp, hn => f87s y hv _ p w hm hl hc hp fun a b _ hl' hc' h _ => by
    have := (sum_bd hc').1
    simp only [Int.natCast_zero] at hn
    omega
  | n + 1, p, w, hm, hl, hc, hp, hn => f87s y hv _ p w hm hl hc hp fun a b hm' hl' hc' h hp' => f87 y hv n a b hm' hl' hc' hp' (by push_cast at hn; omega)
end Go.Ab.Try
