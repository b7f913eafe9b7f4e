/- The functions of the bog laws: cuttings, part 66. The walks are written by wip/gen/gw.py. -/
import Derived.Test.YtjcecljhjailiaaGreatDoorBogR7
import Derived.Test.YtjcecljhjailiaaGreatDoorBogS1
import Derived.Test.YtjcecljhjailiaaGreatDoorBogG22
import Derived.Test.YtjcecljhjailiaaGreatDoorBogG25
import Derived.Test.YtjcecljhjailiaaGreatDoorBogG07
set_option linter.all false
namespace Go.Ab.Tryz
open Go Go.Ab Go.Proofs Go.Ab.Ci Go.Ab.Gx
open Go.Ab.Heap (Az Ah BZ)
open Go.Ab.Heap (Hp Et validate sm)
abbrev rfQ (b:Bg) (h:Hp) (n:Int) (c:Cs):List SV:=[.dv (.list (b.worth.map ints)),.dv (.list (h.links.map ints)),.dv (ints h.ground),.dv (i64 (b.dep:Int)),.dv (i64 (b.worth.length:Int)),.dv (i64 n),
 .dv (i64 c.day),.dv (i64 (c.F3:Int)),.dv (i64 c.Ei),.dv (i64 c.cut),.dv (i64 c.loaded),.dv (i64 (Qt c)),.sl 100003 0 0 c.AU.length,.sl 100004 0 0 c.AX.length,.dv (.bool c.shut),.sl 100005 0 0 c.orders.length]
abbrev six (b:Bg) (h:Hp) (n:Int) (c:Cs):List (Nat × BG):=[(100000,Jg b h n c),(100001,Cy c.orders 0),(100002,⟨rfQ b h n c,0,67,0,false⟩),(100003,rowIs c.AU 0),(100004,rowIs c.AX 0),(100005,Cy c.orders 0)]
set_option maxHeartbeats 1000000 in
theorem Km (f:Fm) (hE:newE f.bog f.heaps f.need=0):Aw Tryz.prog 21 [.dv (LK f)] (Ba []) ⟨[.pt 100000 0 0,.pt 100002 0 0,.dv (.bool true)],Ba (six f.bog f.heaps f.need (cs0 f.bog.worth.length))⟩:=by
 have h1:=Ng f.bog f.heaps f.need hE
 have h2:=Xd f.bog f.heaps f.need hE
 refine DC Tryz.func21 rfl rfl (by rw [Tryz.ntmps21];simp) fun cx hP hn hg=>?_
 rw [Tryz.ntmps21] at hn
 refine Bj ?_
 refine sg ?_
 refine qp BX ?_
 iterate 3 refine qv A9 ?_
 refine sg ?_
 refine qv (AB E5) ?_
 refine qv (AQ D9 DW) ?_
 refine qv (AB EJ) ?_
 refine qv (AQ Cq Cr) ?_
 refine qv (AB FK) ?_
 refine qv (AL Ak Br) ?_
 refine Dx (h1) [] [] [100000,100001] ?_
 refine qv A8 ?_
 iterate 2 refine qv Bf ?_
 iterate 2 refine qv A9 ?_
 refine sg ?_
 refine qv (AB E5) ?_
 refine qv (AQ D9 DW) ?_
 refine qv (AB EJ) ?_
 refine qv (AQ Cq Cr) ?_
 refine qv (AB FK) ?_
 refine qv (AL Ak Br) ?_
 refine Dx (h2) [] [] [100002,100003,100004,100005] ?_
 refine qv A8 ?_
 iterate 2 refine qv Bf ?_
 iterate 2 refine qv A9 ?_
 refine sg ?_
 iterate 3 refine qv A8 ?_
 refine qv Bv ?_
 refine qx A8 (fun oL=>?_) (fun oL=>?_)
 rotate_left
 ·exact absurd oL ((by decide))
 refine qv A8 ?_
 refine qv Bv ?_
 refine qv Ai ?_
 refine qx A8 (fun A36=>?_) (fun A36=>?_)
 rotate_left
 ·exact absurd A36 ((by decide))
 refine qv A8 ?_
 refine mP XI ?_
 refine qv Ai ?_
 iterate 3 refine qv A9 ?_
 refine AP ?_
 exact xg [(100000,100000),(100001,100001),(100002,100002),(100003,100003),(100004,100004),(100005,100005)] (h2:=by simp [CV,Al,Ae,Aa,isLive,Ac,Ba,AA,Ch,BK,BJ,CR,Af,BI,BL,BO,BM,BN,Dv,cs0])
theorem Kn (f:Fm) (hE:newE f.bog f.heaps f.need ≠ 0):Aw Tryz.prog 21 [.dv (LK f)] (Ba []) ⟨[.dv .DI,.dv .DI,.dv (.bool false)],Ba []⟩:=by
 have h1:=Rl f.bog f.heaps f.need hE
 have h2:=Rm f.bog f.heaps f.need hE
 refine DC Tryz.func21 rfl rfl (by rw [Tryz.ntmps21];simp) fun cx hP hn hg=>?_
 rw [Tryz.ntmps21] at hn
 refine Bj ?_
 refine sg ?_
 refine qp BX ?_
 iterate 3 refine qv A9 ?_
 refine sg ?_
 refine qv (AB E5) ?_
 refine qv (AQ D9 DW) ?_
 refine qv (AB EJ) ?_
 refine qv (AQ Cq Cr) ?_
 refine qv (AB FK) ?_
 refine qv (AL Ak Br) ?_
 refine Dx (h1) [] [] [] ?_
 refine qv A8 ?_
 iterate 2 refine qv Bf ?_
 iterate 2 refine qv A9 ?_
 refine sg ?_
 refine qv (AB E5) ?_
 refine qv (AQ D9 DW) ?_
 refine qv (AB EJ) ?_
 refine qv (AQ Cq Cr) ?_
 refine qv (AB FK) ?_
 refine qv (AL Ak Br) ?_
 refine Dx (h2) [] [] [] ?_
 refine qv A8 ?_
 iterate 2 refine qv Bf ?_
 iterate 2 refine qv A9 ?_
 refine sg ?_
 iterate 3 refine qv A8 ?_
 refine qv Bv ?_
 refine qx A8 (fun oL=>?_) (fun oL=>?_)
 ·exact absurd oL ((by simp [hE]))
 iterate 2 refine qk ?_
 refine qv Ai ?_
 refine qv A8 ?_
 iterate 2 refine qk ?_
 refine qv Ai ?_
 iterate 3 refine qv A9 ?_
 refine AP ?_
 exact xg []
theorem f22 (f:Fm) (hE:newE f.bog f.heaps f.need ≠ 0):AR Tryz.prog 22 [LK f] (.one (.dv (.bool true))):=by
 have h1:=Rl f.bog f.heaps f.need hE
 have h2:=Rm f.bog f.heaps f.need hE
 refine Bu Tryz.func22 rfl rfl (by rw [Tryz.ntmps22];simp) fun cx hP hn hg=>?_
 rw [Tryz.ntmps22] at hn
 rw [Bq,Bp]
 simp only [List.nil_append,List.append_nil,List.cons_append,BF,Nat.reduceAdd]
 refine sg ?_
 refine qp BX ?_
 refine qv A9 ?_
 refine sg ?_
 refine qv (AB E5) ?_
 refine qv (AQ D9 DW) ?_
 refine qv (AB EJ) ?_
 refine qv (AQ Cq Cr) ?_
 refine qv (AB FK) ?_
 refine qv (AL Ak Br) ?_
 refine Dx (h1) [] [] [] ?_
 refine qv A8 ?_
 iterate 2 refine qv Bf ?_
 iterate 2 refine qv A9 ?_
 refine sg ?_
 refine qv (AB E5) ?_
 refine qv (AQ D9 DW) ?_
 refine qv (AB EJ) ?_
 refine qv (AQ Cq Cr) ?_
 refine qv (AB FK) ?_
 refine qv (AL Ak Br) ?_
 refine Dx (h2) [] [] [] ?_
 refine qv A8 ?_
 iterate 2 refine qv Bf ?_
 iterate 2 refine qv A9 ?_
 refine sg ?_
 iterate 2 refine qv A8 ?_
 refine qv Bv ?_
 refine qx A8 (fun Jm=>?_) (fun Jm=>?_)
 rotate_left
 ·exact absurd Jm ((by simp))
 refine qv A8 ?_
 refine qv BP ?_
 refine qv Ai ?_
 refine qx A8 (fun A38=>?_) (fun A38=>?_)
 rotate_left
 ·exact absurd A38 ((by simp [hE]))
 refine Bo (f20) ?_
 refine qv Ai ?_
 refine qv A9 ?_
 refine AP ?_
 exact x1 (hr:=(DX))
end Go.Ab.Tryz
