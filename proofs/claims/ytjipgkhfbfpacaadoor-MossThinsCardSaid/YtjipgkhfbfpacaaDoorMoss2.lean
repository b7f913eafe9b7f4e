/- The functions of the moss laws, part 2. The walks are written by wip/gen/gw.py. -/
import Derived.Test.YtjipgkhfbfpacaaDoorMoss1
import Derived.Test.YtjipgkhfbfpacaaDoorMossFacts
import Derived.Test.YtjipgkhfbfpacaaDoorMossT
set_option linter.all false
namespace Go.Ab.Tryd
open Go Go.Ab Go.Proofs Go.Ab.Moss

theorem deBruijn_get {t : Nat} (ht : t < 64) : (deBruijnI.map (Value.int .u8))[tzIx (2 ^ t)]? = some (DV.int .u8 (t : Int)).val := by
  have h := (deBruijn_ok t ht).2
  have e : deBruijnI = deBruijn.map fun n : Nat => (n : Int) := by decide
  rw [e, List.map_map, List.getElem?_map, h]
  rfl
theorem ty89 : Tryd.prog.underlying 89 = some (.array 64 5) := by kernel_rfl
theorem full_add {n : Mn} : full n + 1 = 2 ^ (n.r * n.c) := by
  have := Nat.two_pow_pos (n.r * n.c)
  unfold full; omega


theorem f74 (x : Nat) (hx : x < 18446744073709551616) (h0 : x ≠ 0) : ACallsF Tryd.prog 74 [u64 (x : Int)] (.one (.dv (i64 (tz x : Int)))) := by
  obtain ⟨t1, t2, t3⟩ := tz_spec h0 hx
  have hneg := and_neg h0 hx
  obtain ⟨d1, d2⟩ := deBruijn_ok _ t1
  refine callsF_of Tryd.func74 rfl rfl (by rw [Tryd.ntmps74]; simp) fun cx hP hn hg => ?_
  rw [Tryd.ntmps74] at hn
  rw [startF_lk, none_mkM]
  simp only [List.nil_append, List.append_nil, List.cons_append, zipSV, Nat.reduceAdd]
  refine awp_seq ?_
  refine rg ?_
  refine qv m_as ?_
  show AWp cx _ _ _
  refine awp_seq ?_
  refine awp_seq ?_
  refine rg ?_
  refine qv m_mv ?_
  refine qv m_eql ?_
  show AWp cx _ _ _
  refine cdF (hb := by simp; omega) (ht := ?_)
  refine awp_skip ?_
  show AWp cx _ _ _
  refine awp_seq ?_
  refine rg ?_
  refine qv m_mv ?_
  refine qv m_mv ?_
  refine qv m_negU ?_
  refine qv (m_andU (b := 18446744073709551616 - x)) ?_
  refine qv (m_mulU (b := 285870213051353865) (hx := by simp only [St.look, St.ev, lk, mkM, blkOf, svOf, svOfCell, reduceIte, Nat.reduceAdd, Nat.reduceEqDiff, Nat.reduceMul]; rw [hneg])) ?_
  refine qv (m_shrU (b := 58)) ?_
  refine qgix (k := .u64) (c := .int .u8 (tz x : Int)) (i := tzIx (2 ^ tz x)) ty89 sz5 (by simp [laidTab]) (deBruijn_get t1) rfl d1 (z := ((tzIx (2 ^ tz x) : Nat) : Int)) rfl ?_ (hy := by simp only [St.look, St.ev, lk, mkM, blkOf, svOf, svOfCell, reduceIte, Nat.reduceAdd, Nat.reduceEqDiff, Nat.reduceMul, tzIx])
  refine qv (m_ld sz5 ag5) ?_
  refine qv (m_cnvI kd5 kd3) ?_
  refine qv m_as ?_
  show AWp cx _ _ _
  refine awp_ret ?_
  exact x1 (hr := (rI_))

theorem f59 (x : Nat) (hx : x < 68719476736) : ACallsF Tryd.prog 59 [i64 (x : Int)] (.one (.dv (i64 (popc x : Int)))) := by
  refine callsF_of Tryd.func59 rfl rfl (by rw [Tryd.ntmps59]; simp) fun cx hP hn hg => ?_
  rw [Tryd.ntmps59] at hn
  rw [startF_lk, none_mkM]
  simp only [List.nil_append, List.append_nil, List.cons_append, zipSV, Nat.reduceAdd]
  refine awp_seq ?_
  refine rg ?_
  refine qv m_as ?_
  show AWp cx _ _ _
  refine awp_seq ?_
  refine rg ?_
  refine qv m_mv ?_
  refine qv (m_cnvU kd3 kd67) ?_
  refine qqF (f94 x (by omega)) ?_
  refine qv m_as ?_
  show AWp cx _ _ _
  refine awp_ret ?_
  exact x1 (hr := (rI_))

theorem f78 (n : Mn) (ok : n.Ok) : ACallsF Tryd.prog 78 [dMn n] (.one (.dv (i64 (full n : Int)))) := by
  have hN := ok.N2
  have hf := full_add (n := n)
  have hlt := full_lt ok
  refine callsF_of Tryd.func78 rfl rfl (by rw [Tryd.ntmps78]; simp) fun cx hP hn hg => ?_
  rw [Tryd.ntmps78] at hn
  rw [startF_lk, none_mkM]
  simp only [List.nil_append, List.append_nil, List.cons_append, zipSV, Nat.reduceAdd]
  refine awp_seq ?_
  refine rg ?_
  refine qp m_box ?_
  refine qv m_as ?_
  show AWp cx _ _ _
  refine awp_seq ?_
  refine rg ?_
  refine qv (m_fdp fd23_0) ?_
  refine qv (m_ldp sz3 ag3) ?_
  refine qv (m_fdp fd23_1) ?_
  refine qv (m_ldp sz3 ag3) ?_
  refine qv m_mulN ?_
  refine qv (m_shlS (n.r * n.c)) ?_
  refine qv (m_subN (full n)) ?_
  refine qv m_as ?_
  show AWp cx _ _ _
  refine awp_ret ?_
  exact x1 (hr := (rI_))

end Go.Ab.Tryd
