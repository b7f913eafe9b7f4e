/- The functions of the bog laws: cuttings, part 60. The walks are written by wip/gen/gw.py. -/
import Derived.Test.YtjcecljhjailiaaGreatDoorBogG26
import Derived.Test.YtjcecljhjailiaaGreatDoorBogG22
import Derived.Test.YtjcecljhjailiaaGreatDoorBogG07
set_option linter.all false
namespace Go.Ab.Tryz
open Go Go.Ab Go.Proofs Go.Ab.Ci Go.Ab.Gx
open Go.Ab.Heap (Az Ah BZ)
open Go.Ab.Heap (Hp Et validate sm)
abbrev tW:Tx:=[119,101,116,32,48,32,48]
abbrev kR:Tx:=[99,117,116,32,48]
abbrev tC1:Tx:=[99,117,116,32,49]
abbrev tD:Tx:=[100,97,121]
abbrev tb:=two.bog
abbrev th:=two.heaps
abbrev tn:=two.need
noncomputable def yA:Cs:=cs0 two.bog.worth.length
noncomputable def sc1:Cs:=Mx tb th tn yA tW
noncomputable def sc2:Cs:=Mx tb th tn sc1 kR
noncomputable def sc3:Cs:=Mx tb th tn sc2 kR
noncomputable def sc4:Cs:=Mx tb th tn sc3 tC1
noncomputable def qo:Cs:=Mx tb th tn sc4 kR
theorem wM:newE tb th tn=0:=by kernel_rfl
theorem s_0:Kq tb yA tW=8:=by kernel_rfl
theorem s_1:Kq tb sc1 kR=0:=by kernel_rfl
theorem s_2:Kq tb sc2 kR=6:=by kernel_rfl
theorem s_3:Kq tb sc3 tC1=0:=by kernel_rfl
theorem s_4:Kq tb sc4 kR=0:=by kernel_rfl
theorem s_m:qo.Ei=6:=by kernel_rfl
theorem s_c:qo.cut=3:=by kernel_rfl
theorem s_w:wrT [tD]=[54,57,54,50,51,57,32,100,97,121,10]:=by kernel_rfl
theorem A1V:xK [tD]:=⟨by decide,fun i hi=>by
 obtain rfl:i=0:=by simpa using hi
 show (3:Nat) < 2000000
 decide⟩
theorem fT:Fn tb th tn:=Ga wM
theorem ok0:C8 tb th tn yA:=M7 fT
theorem ok1:C8 tb th tn sc1:=Tt fT ok0 _
theorem ok2:C8 tb th tn sc2:=Tt fT ok1 _
theorem ok3:C8 tb th tn sc3:=Tt fT ok2 _
theorem ok4:C8 tb th tn sc4:=Tt fT ok3 _
theorem ok5:C8 tb th tn qo:=Tt fT ok4 _
theorem g59:Aw Tryz.prog 59 [.dv (KJ tb),.dv (Et th),.dv (i64 tn)] (Ba []) ⟨[.pt 100000 0 0,.dv (i64 0)],Ba [(100000,Jg tb th tn yA),(100001,LD yA.orders)]⟩:=Ng tb th tn wM
theorem d_0:Aw Tryz.prog 24 [.pt 100000 0 0,.dv (CY tW)] (Ba (pair tb th tn yA 0 100004)) ⟨[.dv (i64 8)],Ba (pair tb th tn sc1 0 0)⟩:=by have h:=f24 tb th tn yA fT ok0 tW (by decide);rwa [s_0] at h
theorem d_1:Aw Tryz.prog 24 [.pt 100000 0 0,.dv (CY kR)] (Ba (pair tb th tn sc1 0 100004)) ⟨[.dv (i64 0)],Ba (pair tb th tn sc2 0 0)⟩:=by have h:=f24 tb th tn sc1 fT ok1 kR (by decide);rwa [s_1] at h
theorem d_2:Aw Tryz.prog 24 [.pt 100000 0 0,.dv (CY kR)] (Ba (pair tb th tn sc2 0 100004)) ⟨[.dv (i64 6)],Ba (pair tb th tn sc3 0 0)⟩:=by have h:=f24 tb th tn sc2 fT ok2 kR (by decide);rwa [s_2] at h
theorem d_3:Aw Tryz.prog 24 [.pt 100000 0 0,.dv (CY tC1)] (Ba (pair tb th tn sc3 0 100004)) ⟨[.dv (i64 0)],Ba (pair tb th tn sc4 0 0)⟩:=by have h:=f24 tb th tn sc3 fT ok3 tC1 (by decide);rwa [s_3] at h
theorem d_4:Aw Tryz.prog 24 [.pt 100000 0 0,.dv (CY kR)] (Ba (pair tb th tn sc4 0 100004)) ⟨[.dv (i64 0)],Ba (pair tb th tn qo 0 0)⟩:=by have h:=f24 tb th tn sc4 fT ok4 kR (by decide);rwa [s_4] at h
theorem g_m:Aw Tryz.prog 52 [.pt 100000 0 0] (Ba (pair tb th tn qo 0 100004)) ⟨[.dv (i64 6)],Ba (pair tb th tn qo 0 100004)⟩:=by have h:=(f52 tb th tn qo fT ok5);rwa [s_m] at h
theorem g_c:Aw Tryz.prog 53 [.pt 100000 0 0] (Ba (pair tb th tn qo 0 100004)) ⟨[.dv (i64 3)],Ba (pair tb th tn qo 0 100004)⟩:=by have h:=(f53 tb th tn qo fT ok5);rwa [s_c] at h
set_option maxHeartbeats 4000000 in
set_option maxRecDepth 100000 in
theorem f20:AR Tryz.prog 20 [] (.one (.dv (.bool true))):=by
 refine Bu Tryz.func20 rfl rfl (by rw [Tryz.ntmps20];simp) fun cx hP hn hg=>?_
 rw [Tryz.ntmps20] at hn
 rw [Bq,Bp]
 simp only [List.nil_append,List.append_nil,List.cons_append,BF,Nat.reduceAdd]
 refine sg ?_
 refine qv A9 ?_
 refine sg ?_
 refine sQ (f61) ?_
 refine qp (Fj xP) ?_
 refine qs (CK EN) ?_
 refine sg ?_
 refine qv (AB E5) ?_
 refine qv (AQ D9 DW) ?_
 refine qv (AB EJ) ?_
 refine qv (AQ Cq Cr) ?_
 refine qv (AB FK) ?_
 refine qv (AL Ak Br) ?_
 refine Dx (g59) [] [] [100000,100001] ?_
 refine qv A8 ?_
 iterate 2 refine qv Bf ?_
 iterate 2 refine qv A9 ?_
 refine AJ ?_
 refine sg ?_
 refine qv A8 ?_
 refine qv BP ?_
 refine qx A8 (fun A3B=>?_) (fun A3B=>?_)
 ·exact absurd A3B ((by decide))
 refine qv A8 ?_
 refine Yi XI ?_
 refine qv Ai ?_
 refine Cv (hb:=(by decide)) (ht:=?_)
 refine AY ?_
 refine AJ ?_
 refine sg ?_
 refine qv A8 ?_
 refine Dx (d_0) [] [(100000,100000),(100001,100001)] [100000,100001] ?_
 refine qv BP ?_
 refine qx A8 (fun A39=>?_) (fun A39=>?_)
 ·exact absurd A39 ((by decide))
 refine qv A8 ?_
 refine Dx (d_1) [] [(100000,100000),(100001,100001)] [100000,100001] ?_
 refine qv BP ?_
 refine qv Ai ?_
 refine qx A8 (fun XV=>?_) (fun XV=>?_)
 ·exact absurd XV ((by decide))
 refine qv A8 ?_
 refine Dx (d_2) [] [(100000,100000),(100001,100001)] [100000,100001] ?_
 refine qv BP ?_
 refine qv Ai ?_
 refine qx A8 (fun A37=>?_) (fun A37=>?_)
 ·exact absurd A37 ((by decide))
 refine qv A8 ?_
 refine Dx (d_3) [] [(100000,100000),(100001,100001)] [100000,100001] ?_
 refine qv BP ?_
 refine qv Ai ?_
 refine qx A8 (fun oK=>?_) (fun oK=>?_)
 ·exact absurd oK ((by decide))
 refine qv A8 ?_
 refine Dx (d_4) [] [(100000,100000),(100001,100001)] [100000,100001] ?_
 refine qv BP ?_
 refine qv Ai ?_
 refine Cv (hb:=(by decide)) (ht:=?_)
 refine AY ?_
 refine sg ?_
 refine qr (D7 CF KL DZ) ?_
 refine Gv 47 47 (x:=Gi [tD]) ?_ (hD:=Hf (L:=[tD]) (st:=1) (by simp only [AA,reduceIte,Nat.reduceEqDiff]<;>rfl) rfl rfl (fun _=>trivial))
 refine Bo (f41 [tD] A1V) ?_
 refine qv A8 ?_
 iterate 2 refine qv Bf ?_
 iterate 2 refine qv A9 ?_
 refine sg ?_
 refine qv A8 ?_
 refine Dx (g_m) [] [(100000,100000),(100001,100001)] [100000,100001] ?_
 refine qv Bv ?_
 refine qx A8 (fun oH=>?_) (fun oH=>?_)
 rotate_left
 ·exact absurd oH ((by decide))
 refine qv A8 ?_
 refine Dx (g_c) [] [(100000,100000),(100001,100001)] [100000,100001] ?_
 refine qv Bv ?_
 refine qv Ai ?_
 refine qx A8 (fun A32=>?_) (fun A32=>?_)
 rotate_left
 ·exact absurd A32 ((by decide))
 refine qv A8 ?_
 refine qv Bv ?_
 refine qv Ai ?_
 refine qx A8 (fun oD=>?_) (fun oD=>?_)
 rotate_left
 ·exact absurd oD ((by decide))
 refine qv A8 ?_
 refine qv D5 ?_
 refine qv Ai ?_
 refine qv A9 ?_
 refine AP ?_
 exact x1 (hr:=Nw (by simp [s_w]))
end Go.Ab.Tryz
