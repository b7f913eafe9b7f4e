/- The functions of the moss laws, part 10. The walks are written by wip/gen/gw.py. -/
import Derived.Test.YtjipgkhfbfpacaaDoorMoss9
import Derived.Test.YtjipgkhfbfpacaaDoorMossFacts
import Derived.Test.YtjipgkhfbfpacaaDoorMossD
set_option linter.all false
namespace Go.Ab.Tryd
open Go Go.Ab Go.Proofs Go.Ab.Moss
theorem s17 : ACallsF Tryd.prog 17 [dMw ⟨2,2,2⟩, i64 9] (.many [.dv (i64 15), .dv (i64 1), .dv (i64 0)]) := by
  have h := f17 ⟨2,2,2⟩ 9
  rw [show wetE ⟨2,2,2⟩ 9 = 0 by decide +kernel, show (onWet ⟨2,2,2⟩ 9 0 fun n v => ((spr n v).1 : Int)) = 15 by decide +kernel, show (onWet ⟨2,2,2⟩ 9 0 fun n v => ((spr n v).2 : Int)) = 1 by decide +kernel] at h
  exact h
theorem s19 : ACallsF Tryd.prog 19 [dMw ⟨2,2,2⟩, i64 15] (.many [.dv (i64 8), .dv (i64 0)]) := by
  have h := f19 ⟨2,2,2⟩ 15
  rw [show (onWet ⟨2,2,2⟩ 15 0 edgeR) = 8 by decide +kernel, show wetE ⟨2,2,2⟩ 15 = 0 by decide +kernel] at h
  exact h
theorem s32 : ACallsF Tryd.prog 32 [dMw ⟨1,4,1⟩, i64 1] (.many [rI [1,2,3], .dv (i64 0)]) := by
  have h := f32 ⟨1,4,1⟩ 1
  rw [show (onWet ⟨1,4,1⟩ 1 [] fun n v => ns (ordL n v)) = [1,2,3] by decide +kernel, show wetE ⟨1,4,1⟩ 1 = 0 by decide +kernel] at h
  exact h
theorem f18 : ACallsF Tryd.prog 18 [] (.one (.dv (.bool true))) := by
  refine callsF_of Tryd.func18 rfl rfl (by rw [Tryd.ntmps18]; simp) fun cx hP hn hg => ?_
  rw [Tryd.ntmps18] at hn
  rw [startF_lk, none_mkM]
  simp only [List.nil_append, List.append_nil, List.cons_append, zipSV, Nat.reduceAdd]
  refine awp_seq ?_
  refine rg ?_
  refine qv m_as ?_
  show AWp cx _ _ _
  refine awp_seq ?_
  refine rg ?_
  refine qv (m_bld pl23 ze23) ?_
  refine qqF (s17) ?_
  refine qv m_mv ?_
  refine qv m_ext ?_
  refine qv m_ext ?_
  refine qv m_ext ?_
  refine qv m_as ?_
  refine qv m_as ?_
  refine qv m_as ?_
  show AWp cx _ _ _
  refine awp_seq ?_
  refine rg ?_
  refine qv (m_bld pl23 ze23) ?_
  refine qqF (s19) ?_
  refine qv m_mv ?_
  refine qv m_ext ?_
  refine qv m_ext ?_
  refine qv m_as ?_
  refine qv m_as ?_
  show AWp cx _ _ _
  refine awp_seq ?_
  refine rg ?_
  refine qv (m_bld pl23 ze23) ?_
  refine qqF (s32) ?_
  refine qv m_mv ?_
  refine qv m_ext ?_
  refine qv m_ext ?_
  refine qv m_as ?_
  refine qv m_as ?_
  show AWp cx _ _ _
  refine awp_seq ?_
  refine rg ?_
  refine qv m_mv ?_
  refine qv m_eql ?_
  refine qx m_mv (fun hg26 => ?_) (fun hg26 => ?_)
  rotate_left
  · exact absurd hg26 (by simp)
  refine qv m_mv ?_
  refine qv m_eql ?_
  refine qv m_pk ?_
  refine qx m_mv (fun hg30 => ?_) (fun hg30 => ?_)
  rotate_left
  · exact absurd hg30 (by simp)
  refine qv m_mv ?_
  refine qv m_eql ?_
  refine qv m_pk ?_
  refine qx m_mv (fun hg34 => ?_) (fun hg34 => ?_)
  rotate_left
  · exact absurd hg34 (by simp)
  refine qv m_mv ?_
  refine qv m_eql ?_
  refine qv m_pk ?_
  refine qx m_mv (fun hg38 => ?_) (fun hg38 => ?_)
  rotate_left
  · exact absurd hg38 (by simp)
  refine qv m_mv ?_
  refine qv m_eql ?_
  refine qv m_pk ?_
  refine qx m_mv (fun hg42 => ?_) (fun hg42 => ?_)
  rotate_left
  · exact absurd hg42 (by simp)
  refine qv m_mv ?_
  refine qv m_eql ?_
  refine qv m_pk ?_
  refine qx m_mv (fun hg46 => ?_) (fun hg46 => ?_)
  rotate_left
  · exact absurd hg46 (by simp)
  refine qv m_mv ?_
  refine qr (m_bsl el32 ze3 sz3) ?_
  refine qqF (f26 [1,2,3] [1,2,3] (by decide)) ?_
  refine qv m_pk ?_
  refine qv m_as ?_
  show AWp cx _ _ _
  refine awp_ret ?_
  exact x1 (hr := (rB_))
end Go.Ab.Tryd
