/- The functions of the bog laws: cuttings, part 66. The walks are written by wip/gen/gw.py. -/
import Derived.Test.YtjcecljhjailiaaGreatDoorBogR7
import Derived.Test.YtjcecljhjailiaaGreatDoorBogS1
import Derived.Test.YtjcecljhjailiaaGreatDoorBogG22
import Derived.Test.YtjcecljhjailiaaGreatDoorBogG25
import Derived.Test.YtjcecljhjailiaaGreatDoorBogG07
set_option linter.all false
namespace Go.Ab.Tryz
open Go Go.Ab Go.Proofs Go.Ab.Ck Go.Ab.Gi
open Go.Ab.Heap (Az Ap BX)
open Go.Ab.Heap (Hp GX validate sm)
abbrev rfQ (b:Bg) (h:Hp) (n:Int) (c:Cs):List SV:=[.dv (.list (b.worth.map ints)),.dv (.list (h.links.map ints)),.dv (ints h.ground),.dv (i64 (b.dep:Int)),.dv (i64 (b.worth.length:Int)),.dv (i64 n),
 .dv (i64 c.day),.dv (i64 (c.Gj:Int)),.dv (i64 c.EL),.dv (i64 c.cut),.dv (i64 c.loaded),.dv (i64 (nI c)),.sl 100003 0 0 c.AU.length,.sl 100004 0 0 c.Ad.length,.dv (.bool c.shut),.sl 100005 0 0 c.orders.length]
abbrev six (b:Bg) (h:Hp) (n:Int) (c:Cs):List (Nat × Au):=[(100000,Il b h n c),(100001,Di c.orders 0),(100002,⟨rfQ b h n c,0,67,0,false⟩),(100003,rowIs c.AU 0),(100004,rowIs c.Ad 0),(100005,Di c.orders 0)]
set_option maxHeartbeats 1000000 in
theorem ku (f:Fm) (hE:newE f.bog f.heaps f.need=0):BA Tryz.prog 21 [.dv (Vk f)] (Bj []) ⟨[.pt 100000 0 0,.pt 100002 0 0,.dv (.bool true)],Bj (six f.bog f.heaps f.need (cs0 f.bog.worth.length))⟩:=by
 have h1:=M9 f.bog f.heaps f.need hE
 have h2:=wY f.bog f.heaps f.need hE
 refine EI Tryz.func21 rfl rfl (by rw [Tryz.ntmps21];simp) fun cx hP hn hg=>?_
 rw [Tryz.ntmps21] at hn
 refine CB ?_
 refine sg ?_
 refine qp Bu ?_
 iterate 3 refine qv A9 ?_
 refine sg ?_
 refine qv (AB F8) ?_
 refine qv (AY Dw EC) ?_
 refine qv (AB F7) ?_
 refine qv (AY Dp Dt) ?_
 refine qv (AB Gc) ?_
 refine qv (AQ Aw Bw) ?_
 refine CY (h1) [] [] [100000,100001] ?_
 refine qv A8 ?_
 iterate 2 refine qv BZ ?_
 iterate 2 refine qv A9 ?_
 refine sg ?_
 refine qv (AB F8) ?_
 refine qv (AY Dw EC) ?_
 refine qv (AB F7) ?_
 refine qv (AY Dp Dt) ?_
 refine qv (AB Gc) ?_
 refine qv (AQ Aw Bw) ?_
 refine CY (h2) [] [] [100002,100003,100004,100005] ?_
 refine qv A8 ?_
 iterate 2 refine qv BZ ?_
 iterate 2 refine qv A9 ?_
 refine sg ?_
 iterate 3 refine qv A8 ?_
 refine qv Bl ?_
 refine qx A8 (fun R5=>?_) (fun R5=>?_)
 rotate_left
 ·exact absurd R5 ((by decide))
 refine qv A8 ?_
 refine qv Bl ?_
 refine qv Ae ?_
 refine qx A8 (fun R4=>?_) (fun R4=>?_)
 rotate_left
 ·exact absurd R4 ((by decide))
 refine qv A8 ?_
 refine zG L9 ?_
 refine qv Ae ?_
 iterate 3 refine qv A9 ?_
 refine AV ?_
 exact xg [(100000,100000),(100001,100001),(100002,100002),(100003,100003),(100004,100004),(100005,100005)] (h2:=by simp [Cm,Ar,Aa,AX,isLive,AZ,Bj,AA,DZ,BO,BN,CW,Al,BL,BP,BS,BQ,BR,ED,cs0])
theorem bP (f:Fm) (hE:newE f.bog f.heaps f.need ≠ 0):BA Tryz.prog 21 [.dv (Vk f)] (Bj []) ⟨[.dv .CU,.dv .CU,.dv (.bool false)],Bj []⟩:=by
 have h1:=NU f.bog f.heaps f.need hE
 have h2:=bL f.bog f.heaps f.need hE
 refine EI Tryz.func21 rfl rfl (by rw [Tryz.ntmps21];simp) fun cx hP hn hg=>?_
 rw [Tryz.ntmps21] at hn
 refine CB ?_
 refine sg ?_
 refine qp Bu ?_
 iterate 3 refine qv A9 ?_
 refine sg ?_
 refine qv (AB F8) ?_
 refine qv (AY Dw EC) ?_
 refine qv (AB F7) ?_
 refine qv (AY Dp Dt) ?_
 refine qv (AB Gc) ?_
 refine qv (AQ Aw Bw) ?_
 refine CY (h1) [] [] [] ?_
 refine qv A8 ?_
 iterate 2 refine qv BZ ?_
 iterate 2 refine qv A9 ?_
 refine sg ?_
 refine qv (AB F8) ?_
 refine qv (AY Dw EC) ?_
 refine qv (AB F7) ?_
 refine qv (AY Dp Dt) ?_
 refine qv (AB Gc) ?_
 refine qv (AQ Aw Bw) ?_
 refine CY (h2) [] [] [] ?_
 refine qv A8 ?_
 iterate 2 refine qv BZ ?_
 iterate 2 refine qv A9 ?_
 refine sg ?_
 iterate 3 refine qv A8 ?_
 refine qv Bl ?_
 refine qx A8 (fun R5=>?_) (fun R5=>?_)
 ·exact absurd R5 ((by simp [hE]))
 iterate 2 refine qk ?_
 refine qv Ae ?_
 refine qv A8 ?_
 iterate 2 refine qk ?_
 refine qv Ae ?_
 iterate 3 refine qv A9 ?_
 refine AV ?_
 exact xg []
theorem f22 (f:Fm) (hE:newE f.bog f.heaps f.need ≠ 0):AR Tryz.prog 22 [Vk f] (.one (.dv (.bool true))):=by
 have h1:=NU f.bog f.heaps f.need hE
 have h2:=bL f.bog f.heaps f.need hE
 refine Bv Tryz.func22 rfl rfl (by rw [Tryz.ntmps22];simp) fun cx hP hn hg=>?_
 rw [Tryz.ntmps22] at hn
 rw [Br,Bq]
 simp only [List.nil_append,List.append_nil,List.cons_append,BH,Nat.reduceAdd]
 refine sg ?_
 refine qp Bu ?_
 refine qv A9 ?_
 refine sg ?_
 refine qv (AB F8) ?_
 refine qv (AY Dw EC) ?_
 refine qv (AB F7) ?_
 refine qv (AY Dp Dt) ?_
 refine qv (AB Gc) ?_
 refine qv (AQ Aw Bw) ?_
 refine CY (h1) [] [] [] ?_
 refine qv A8 ?_
 iterate 2 refine qv BZ ?_
 iterate 2 refine qv A9 ?_
 refine sg ?_
 refine qv (AB F8) ?_
 refine qv (AY Dw EC) ?_
 refine qv (AB F7) ?_
 refine qv (AY Dp Dt) ?_
 refine qv (AB Gc) ?_
 refine qv (AQ Aw Bw) ?_
 refine CY (h2) [] [] [] ?_
 refine qv A8 ?_
 iterate 2 refine qv BZ ?_
 iterate 2 refine qv A9 ?_
 refine sg ?_
 iterate 2 refine qv A8 ?_
 refine qv Bl ?_
 refine qx A8 (fun JH=>?_) (fun JH=>?_)
 rotate_left
 ·exact absurd JH ((by simp))
 refine qv A8 ?_
 refine qv Ay ?_
 refine qv Ae ?_
 refine qx A8 (fun A08=>?_) (fun A08=>?_)
 rotate_left
 ·exact absurd A08 ((by simp [hE]))
 refine CF (f20) ?_
 refine qv Ae ?_
 refine qv A9 ?_
 refine AV ?_
 exact x1 (hr:=(Ej))
end Go.Ab.Tryz
