/- BogC2. -/
import Derived.Test.YtjcecljhjailiaaGreatDoorBogG24
import Derived.Test.YtjcecljhjailiaaGreatDoorBogG09
set_option linter.all false
namespace Go.Ab.Tryz
open Go Go.Ab Go.Proofs Go.Ab.Moss
open Go.Ab.Heap (ata ata_get ata_set)
def idxI (x : Int) (l : List Int) : Int := if l.contains x then (l.findIdx (fun q => q == x) : Int) else -1
theorem idxI_no {x : Int} {l : List Int} (h : ∀ j (hj : j < l.length), l[j] ≠ x) : idxI x l = -1 := by
  unfold idxI
  rw [if_neg]
  rw [List.contains_iff_mem]
  intro hx
  obtain ⟨j, hj, e⟩ := List.getElem_of_mem hx
  exact h j hj e
theorem idxI_at {x : Int} {l : List Int} {i : Nat} (hi : i < l.length) (h : l[i] = x) (hb : ∀ j (hj : j < l.length), j < i → l[j] ≠ x) : idxI x l = i := by
  unfold idxI
  have hc : l.contains x = true := by rw [List.contains_iff_mem]; exact h ▸ List.getElem_mem hi
  rw [if_pos hc]
  congr 1
  rw [List.findIdx_eq hi]
  exact ⟨by simp [h], fun j hj => by simpa using hb j (by omega) hj⟩
theorem idxI_ge {x : Int} {l : List Int} : decide (0 ≤ idxI x l) = l.contains x := by
  unfold idxI
  cases l.contains x <;> simp <;> omega
theorem f212 (l : List Int) (x : Int) (hl : l.length < 1000000) : ACallsF Tryz.prog 212 [ints l, i64 x] (.one (.dv (i64 (idxI x l)))) := by
  refine callsF_of Tryz.func212 rfl rfl (by rw [Tryz.ntmps212]; simp) fun cx hP hn hg => ?_
  rw [Tryz.ntmps212] at hn
  rw [startF_lk, none_mkM]
  simp only [List.nil_append, List.append_nil, List.cons_append, zipSV, Nat.reduceAdd]
  refine awp_seq ?_
  refine rg ?_
  refine qv m_as ?_
  show AWp cx _ _ _
  refine awp_seq ?_
  refine awp_seq ?_
  refine rg ?_
  refine qv m_mv ?_
  refine qv (m_len il25) ?_
  refine qv m_mv ?_
  show AWp cx _ _ _
  refine awp_block ?_
  refine awp_loop (ι := Nat) (fun i => ⟨lk [(0, .dv (ints (l))), (1, .dv (i64 (x))), (7, .dv (i64 ((l.length : Int)))), (8, .dv (i64 (i : Nat)))], mkM []⟩) (fun i => i ≤ l.length ∧ ∀ j (hj : j < l.length), j < i → l[j] ≠ x) (fun i => l.length - i) 0 (by simp) (tl []) ?_
  intro i hφ0
  refine awp_seq ?_
  refine rg ?_
  refine qv m_lss ?_
  show AWp cx _ _ _
  refine awp_seq ?_
  refine cd (fun hc0 => ?_) (fun hc0 => ?_)
  · try simp at hc0
    refine awp_skip ?_
    show AWp cx _ _ _
    refine awp_seq ?_
    refine awp_block ?_
    refine awp_seq ?_
    refine rg ?_
    have hi : i < l.length := by omega
    have hx : l[i]? = some l[i] := List.getElem?_eq_getElem hi
    refine qv m_mv ?_
    refine qv m_as ?_
    show AWp cx _ _ _
    refine awp_seq ?_
    refine rg ?_
    refine qv m_mv ?_
    refine qv m_mv ?_
    refine qv m_mv ?_
    first | refine qv (m_ixN el25 sz3) ?_ | refine qv (m_ix el25 sz3) ?_
    refine qv (m_ld sz3 ag3) ?_
    refine qv m_eql ?_
    show AWp cx _ _ _
    refine cd (fun hc1 => ?_) (fun hc1 => ?_)
    · try simp at hc1
      refine awp_seq ?_
      refine rg ?_
      refine qv m_mv ?_
      refine qv m_as ?_
      show AWp cx _ _ _
      refine awp_ret ?_
      exact x1 (hr := (rI_ (by rw [idxI_at hi (by simp_all) fun j hj h => hφ0.2 j hj h])))
    · try simp at hc1
      refine awp_skip ?_
      show AWp cx _ _ _
      refine rg ?_
      refine qv m_add ?_
      refine qv m_mv ?_
      exact ⟨i + 1, ⟨by omega, fun j hj h => by
        rcases Nat.lt_or_ge j i with h1 | h1
        · exact hφ0.2 j hj h1
        · obtain rfl : j = i := by omega
          exact fun e => hc1 (by simp [e])⟩, (by simp only; omega), (tl [])⟩
  · try simp at hc0
    refine awp_exit ?_
    show AWp cx _ _ _
    refine awp_seq ?_
    refine rg ?_
    refine qv m_as ?_
    show AWp cx _ _ _
    refine awp_ret ?_
    exact x1 (hr := (rI_ (by rw [idxI_no fun j hj => hφ0.2 j hj (by omega)])))
theorem f184 (l : List Int) (x : Int) (hl : l.length < 1000000) : ACallsF Tryz.prog 184 [ints l, i64 x] (.one (.dv (.bool (l.contains x)))) := by
  refine callsF_of Tryz.func184 rfl rfl (by rw [Tryz.ntmps184]; simp) fun cx hP hn hg => ?_
  rw [Tryz.ntmps184] at hn
  rw [startF_lk, none_mkM]
  simp only [List.nil_append, List.append_nil, List.cons_append, zipSV, Nat.reduceAdd]
  refine awp_seq ?_
  refine rg ?_
  refine qv m_as ?_
  show AWp cx _ _ _
  refine awp_seq ?_
  refine rg ?_
  refine qv m_mv ?_
  refine qv m_mv ?_
  refine qqF (f212 l x hl) ?_
  refine qv m_geq ?_
  refine qv m_as ?_
  show AWp cx _ _ _
  refine awp_ret ?_
  exact x1 (hr := (rB_ (by exact idxI_ge)))
end Go.Ab.Tryz
