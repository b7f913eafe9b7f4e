/- The functions of the dry laws, part 14. The walks are written by wip/gen/gw.py. -/
import Derived.Test.YtjlfgobbieljoaaDry13
import Derived.Test.YtjlfgobbieljoaaAbG
set_option linter.all false
namespace Go.Ab.Try
open Go Go.Ab Go.Proofs
def delF (p : Int → Bool) (L : List Int) : List Int := L.filter fun x => !p x
theorem delF_snoc {p : Int → Bool} {L : List Int} {j : Nat} (hj : j < L.length) : delF p (L.take (j + 1)) = if p L[j] then delF p (L.take j) else delF p (L.take j) ++ [L[j]] := by
  rw [take_snoc (List.getElem?_eq_getElem hj)]
  unfold delF
  rw [List.filter_append]
  by_cases h : p L[j] = true
  · rw [if_pos h]; simp [h]
  · rw [if_neg h]; simp [h]
theorem delF_len {p : Int → Bool} {L : List Int} : (delF p L).length ≤ L.length := List.length_filter_le _ _
theorem data_intsP {ok : Nat → Prop} {okd : DV → Prop} {M : Nat → Nat × Option Blk} {t g n : Nat} {blk : Blk} {k : IntKind} {L zs : List Int} (hM : M t = (g, some blk)) (hst : ok blk.st) (hl : L.length = n) (he : blk.esz = 1) (hc : blk.cells = (L ++ zs).map fun q => .dv (.int k q)) (hd : ∀ q, okd (.int k q)) : Data ok okd M (.sl t g 0 n) (.list (L.map (DV.int k))) := by
  have hf : flat (L.map (DV.int k)) = L.map (DV.int k) := flat_one fun _ => rfl
  refine .sl t g 0 n blk _ (fun j => .dv ((L.map (DV.int k)).getD j default)) hM hst (by simpa using hl) (fun d hd' => ?_) (fun j c hj => ?_) fun j c hj => ?_
  · obtain ⟨q, _, rfl⟩ := List.mem_map.1 hd'; rw [he]; rfl
  · rw [hf] at hj
    have h1 := (List.getElem?_eq_some_iff.1 hj).1
    simp only [List.length_map] at h1
    rw [hc]
    simp [h1, List.getElem?_append_left]
  · rw [hf] at hj
    have h0 : (L.map (DV.int k)).getD j default = c := by rw [List.getD_eq_getElem?_getD, hj]; rfl
    rw [h0]
    obtain ⟨q, _, rfl⟩ := List.mem_map.1 (List.mem_of_getElem? hj)
    exact .dv _ (hd q)
def wDel (p : Int → Bool) (L : List Int) (j : Nat) (mid : List Int) : List Int := delF p (L.take j) ++ mid ++ L.drop j
theorem idxF_cases {p : Int → Bool} {L : List Int} : (idxF p L = -1 ∧ ∀ x ∈ L, p x = false) ∨ ∃ i : Nat, ∃ h : i < L.length, idxF p L = i ∧ p L[i] = true ∧ ∀ j (hj : j < i), p (L[j]'(by omega)) = false := by
  unfold idxF
  by_cases h : L.any p = true
  · rw [if_pos h]
    obtain ⟨x, hx, hpx⟩ := List.any_eq_true.1 h
    have hlt : L.findIdx p < L.length := List.findIdx_lt_length_of_exists ⟨x, hx, hpx⟩
    exact .inr ⟨L.findIdx p, hlt, rfl, List.findIdx_getElem, fun j hj => by have := List.not_of_lt_findIdx hj; simpa using this⟩
  · rw [if_neg h]
    refine .inl ⟨rfl, fun x hx => ?_⟩
    cases hp : p x with
    | false => rfl
    | true => exact absurd (List.any_eq_true.2 ⟨x, hx, hp⟩) h
theorem delF_none {p : Int → Bool} {L : List Int} (h : ∀ x ∈ L, p x = false) : delF p L = L := by
  unfold delF
  rw [List.filter_eq_self]
  intro x hx
  simp [h x hx]
theorem wDel_len {p : Int → Bool} {L : List Int} {j : Nat} {mid : List Int} (hj : j ≤ L.length) (h : (delF p (L.take j)).length + mid.length = j) : (wDel p L j mid).length = L.length := by
  simp [wDel]; omega
theorem wDel_get {p : Int → Bool} {L : List Int} {j : Nat} {mid : List Int} (hj : j < L.length) (h : (delF p (L.take j)).length + mid.length = j) : (wDel p L j mid)[j]? = some L[j] := by
  unfold wDel
  rw [List.getElem?_append_right (by simp; omega)]
  have : j - (delF p (L.take j) ++ mid).length = 0 := by simp; omega
  rw [this]
  simp [hj]
theorem wDel_skip {p : Int → Bool} {L : List Int} {j : Nat} {mid : List Int} (hj : j < L.length) (hp : p L[j] = true) : wDel p L j mid = wDel p L (j + 1) (mid ++ [L[j]]) := by
  unfold wDel
  rw [delF_snoc hj, if_pos hp, List.drop_eq_getElem_cons hj]
  simp
theorem wDel_set {p : Int → Bool} {L : List Int} {j : Nat} {x : Int} {mid : List Int} (hj : j < L.length) (hp : p L[j] = false) : (wDel p L j (x :: mid)).set (delF p (L.take j)).length L[j] = wDel p L (j + 1) (mid ++ [L[j]]) := by
  unfold wDel
  rw [delF_snoc hj, if_neg (by simp [hp]), List.drop_eq_getElem_cons hj]
  simp [List.set_append]
theorem wDel_init {p : Int → Bool} {L : List Int} {i : Nat} (hi : i < L.length) (h : ∀ j (hj : j < i), p (L[j]'(by omega)) = false) (hp : p L[i] = true) : wDel p L (i + 1) [L[i]] = L ∧ (delF p (L.take (i + 1))).length = i := by
  have e : delF p (L.take i) = L.take i := delF_none fun x hx => by
    obtain ⟨j, hj, rfl⟩ := List.getElem_of_mem hx
    simp only [List.length_take] at hj
    rw [List.getElem_take]
    exact h j (by omega)
  constructor
  · unfold wDel
    rw [delF_snoc hi, if_pos hp, e]
    simp [hi]
  · rw [delF_snoc hi, if_pos hp, e]
    simp; omega
theorem f107 (L zs : List Int) (f : FuncId) (pre caps : List DV) (p : Int → Bool) (hp : ∀ x ∈ L, ACallsF Try.prog f (pre ++ [i64 x] ++ caps) (.one (.dv (.bool (p x))))) (hl : L.length < 1000000) :
    ACallsG Try.prog 107 [.sl 100000 0 0 L.length, .dv (.fn f pre caps)] (mkB [(100000, lentI 0 (L ++ zs))]) ⟨[.sl 100000 0 0 (delF p L).length], mkB [(100000, lentI 0 (delF p L ++ List.replicate (L.length - (delF p L).length) 0 ++ zs))]⟩ := by
  refine callsG_of Try.func107 rfl rfl (by rw [Try.ntmps107]; simp) fun cx hP hn hg => ?_
  rw [Try.ntmps107] at hn
  refine startG ?_
  refine awp_seq ?_
  refine rg ?_
  refine qv m_as ?_
  show AWp cx _ _ _
  refine awp_seq ?_
  refine rg ?_
  have hic := idxF_cases (p := p) (L := L)
  refine qv m_mv ?_
  refine qv m_mv ?_
  refine qqF (f106 L f pre caps p hp hl) ?_ (ha := (args_cons (data_intsP (L := L) (zs := zs) (by simp only [mkM, reduceIte, Nat.reduceEqDiff] <;> rfl) trivial rfl rfl rfl (fun _ => trivial)) (args_cons data_dv args_nil)))
  refine qv m_as ?_
  show AWp cx _ _ _
  refine awp_seq ?_
  refine awp_seq ?_
  refine rg ?_
  refine qv m_mv ?_
  refine qv m_eql ?_
  show AWp cx _ _ _
  refine cd (fun hc0 => ?_) (fun hc0 => ?_)
  · try simp at hc0
    refine awp_seq ?_
    refine rg ?_
    refine qv m_mv ?_
    refine qv m_as ?_
    show AWp cx _ _ _
    refine awp_ret ?_
    have hd : delF p L = L := by
      rcases hic with ⟨_, h1⟩ | ⟨i0, hi0, h1, _⟩
      · exact delF_none h1
      · omega
    rw [hd, Nat.sub_self]
    simp only [List.replicate_zero, List.append_nil]
    exact xg [(100000, 100000)] (h2 := by simp [MLe, blkLe, svLes, mkM, tauL, svLes_ints, svLes_self, isDvs_app, isDvs_map])
  · try simp at hc0
    rcases hic with ⟨h1, _⟩ | ⟨i0, hi0, h1, h2, h3⟩
    · exact absurd h1 hc0
    obtain ⟨w1, w2⟩ := wDel_init hi0 h3 h2
    rw [h1]
    refine awp_skip ?_
    show AWp cx _ _ _
    refine awp_seq ?_
    refine awp_seq ?_
    refine rg ?_
    refine qv m_mv ?_
    refine qv m_add ?_
    refine qv m_as ?_
    show AWp cx _ _ _
    refine awp_block ?_
    refine awp_loop (ι := Nat × List Int) (fun q => ⟨lk [(0, .sl 100000 0 0 L.length), (1, .dv (.fn f pre caps)), (5, .dv (i64 ((delF p (L.take q.1)).length : Nat))), (6, .dv (i64 (q.1 : Nat)))], mkM [(100000, 0, some (lentI 0 (wDel p L q.1 q.2 ++ zs)))]⟩) (fun q => q.1 ≤ L.length ∧ 0 < q.2.length ∧ (delF p (L.take q.1)).length + q.2.length = q.1) (fun q => L.length - q.1) (i0 + 1, [L[i0]]) ⟨hi0, by simp, by simp [w2]⟩ (tl [(100000, 100000)] (hF := by simp [FLe, svLe, lk, mkM, isLive, tauL, w1, w2]) (hM := by simp [MLe, blkLe, svLe, svLes, lk, mkM, isLive, tauL, svLes_ints, svLes_self, isDvs, isDvs_map, isDvs_app, isDvs_take, isDvs_set, isDvs_repl, w1, w2])) ?_
    intro ⟨j, mid⟩ hφ0
    dsimp only at hφ0 ⊢
    refine awp_seq ?_
    refine awp_seq ?_
    refine rg ?_
    refine qv m_mv ?_
    refine qv m_mv ?_
    refine qv (m_lenR il25) ?_
    refine qv m_lss ?_
    show AWp cx _ _ _
    refine cd (fun hc1 => ?_) (fun hc1 => ?_)
    · try simp at hc1
      refine awp_skip ?_
      show AWp cx _ _ _
      refine awp_seq ?_
      refine awp_block ?_
      refine awp_seq ?_
      refine rg ?_
      have hj : j < L.length := by omega
      have hwl := wDel_len (mid := mid) (by omega) hφ0.2.2
      have hget : (wDel p L j mid ++ zs)[j]? = some L[j] := by rw [List.getElem?_append_left (by omega)]; exact wDel_get (mid := mid) hj hφ0.2.2
      have hwz : (wDel p L j mid ++ zs).length = L.length + zs.length := by simp; omega
      refine qv m_mv ?_
      refine qv m_mv ?_
      refine qv (m_ixR el25 sz3) ?_
      first | refine qv (m_ldI sz3 ag3) ?_ | refine qv (m_ldp sz3 ag3) ?_
      refine qv m_as ?_
      show AWp cx _ _ _
      refine awp_seq ?_
      refine rg ?_
      refine qv m_mv ?_
      refine qv m_mv ?_
      refine qqVF (hp L[j] (List.getElem_mem hj)) ?_
      refine qv m_not ?_
      show AWp cx _ _ _
      refine cd (fun hc2 => ?_) (fun hc2 => ?_)
      · try simp at hc2
        obtain ⟨x, mid, rfl⟩ := List.exists_cons_of_ne_nil (List.length_pos_iff.1 hφ0.2.1)
        have hset : (wDel p L j (x :: mid) ++ zs).set (delF p (L.take j)).length L[j] = wDel p L (j + 1) (mid ++ [L[j]]) ++ zs := by
          rw [List.set_append, if_pos (by have := hφ0.2.2; simp only [List.length_cons] at this; omega), wDel_set (x := x) (mid := mid) hj hc2]
        have hsn : delF p (L.take (j + 1)) = delF p (L.take j) ++ [L[j]] := by rw [delF_snoc hj, if_neg (by simp [hc2])]
        have hml := hφ0.2.2
        simp only [List.length_cons] at hml
        refine awp_seq ?_
        refine rg ?_
        refine qv m_mv ?_
        refine qv m_mv ?_
        refine qv m_mv ?_
        refine qv (m_ixR el25 sz3) ?_
        first | refine qs (m_stI sz3) ?_ | refine qs (m_st sz3) ?_
        show AWp cx _ _ _
        refine rg ?_
        refine qv m_mv ?_
        refine qv m_add ?_
        refine qv m_as ?_
        show AWp cx _ _ _
        refine rg ?_
        refine qv m_mv ?_
        refine qv m_add ?_
        refine qv m_as ?_
        refine ⟨(j + 1, mid ++ [L[j]]), ⟨hj, by simp, by simp [hsn]; omega⟩, by simp only; omega, (tl [(100000, 100000)] (hF := by simp [FLe, svLe, lk, mkM, isLive, tauL, hsn]) (hM := by simp [MLe, blkLe, svLe, svLes, lk, mkM, isLive, tauL, svLes_ints, svLes_self, isDvs_app, isDvs_map, hset]))⟩
      · try simp at hc2
        have hsk := wDel_skip (mid := mid) hj hc2
        have hsn : delF p (L.take (j + 1)) = delF p (L.take j) := by rw [delF_snoc hj, if_pos hc2]
        refine awp_skip ?_
        show AWp cx _ _ _
        refine rg ?_
        refine qv m_mv ?_
        refine qv m_add ?_
        refine qv m_as ?_
        refine ⟨(j + 1, mid ++ [L[j]]), ⟨hj, by simp, by simp [hsn]; omega⟩, by simp only; omega, (tl [(100000, 100000)] (hF := by simp [FLe, svLe, lk, mkM, isLive, tauL, hsn]) (hM := by simp [MLe, blkLe, svLe, svLes, lk, mkM, isLive, tauL, svLes_ints, svLes_self, isDvs_app, isDvs_map, hsk]))⟩
    · try simp at hc1
      refine awp_exit ?_
      show AWp cx _ _ _
      refine awp_seq ?_
      refine rg ?_
      obtain rfl : j = L.length := by omega
      have hwl := wDel_len (mid := mid) (by omega) hφ0.2.2
      have hmp := hφ0.2.1
      have hml := hφ0.2.2
      rw [List.take_length] at hml
      have htl : L.take L.length = L := List.take_length
      have hfin : (wDel p L L.length mid ++ zs).take (delF p L).length ++ List.replicate (L.length - (delF p L).length) 0 ++ (wDel p L L.length mid ++ zs).drop ((delF p L).length + (L.length - (delF p L).length)) = delF p L ++ List.replicate (L.length - (delF p L).length) 0 ++ zs := by
        have h5 : (delF p L).length + (L.length - (delF p L).length) = L.length := by omega
        have h6 : (wDel p L L.length mid ++ zs).drop L.length = zs := by rw [List.drop_append_of_le_length (by omega), List.drop_of_length_le (by omega), List.nil_append]
        rw [h5, h6]
        congr 1
        congr 1
        rw [List.take_append_of_le_length (by omega)]
        simp [wDel]
      have hwz : (wDel p L L.length mid ++ zs).length = L.length + zs.length := by simp; omega
      simp only [htl]
      refine qv m_mv ?_
      refine qv m_mv ?_
      first | refine qv (m_cutRn el25 sz3) ?_ | refine qv (m_cutR el25 sz3) ?_ | refine qv (m_cutR0 el25 sz3) ?_
      first | refine qcl el25 ze3 ?_ | refine qcl0 el25 ?_
      show AWp cx _ _ _
      refine awp_seq ?_
      refine rg ?_
      refine qv m_mv ?_
      refine qv m_mv ?_
      first | refine qv (m_cutRn el25 sz3) ?_ | refine qv (m_cutR el25 sz3) ?_ | refine qv (m_cutR0 el25 sz3) ?_
      refine qv m_as ?_
      show AWp cx _ _ _
      refine awp_ret ?_
      exact xg [(100000, 100000)]
end Go.Ab.Try
