/- The functions of the bog laws: cuttings, part 60. The walks are written by wip/gen/gw.py. -/
import Derived.Test.YtjcecljhjailiaaGreatDoorBogG26
import Derived.Test.YtjcecljhjailiaaGreatDoorBogG22
import Derived.Test.YtjcecljhjailiaaGreatDoorBogG07
set_option linter.all false
namespace Go.Ab.Tryz
open Go Go.Ab Go.Proofs Go.Ab.Ck Go.Ab.Gi
open Go.Ab.Heap (Az Ap BX)
open Go.Ab.Heap (Hp GX validate sm)
abbrev tW:Tx:=[119,101,116,32,48,32,48]
abbrev gW:Tx:=[99,117,116,32,48]
abbrev tC1:Tx:=[99,117,116,32,49]
abbrev tD:Tx:=[100,97,121]
abbrev tb:=two.bog
abbrev th:=two.heaps
abbrev tn:=two.need
noncomputable def um:Cs:=cs0 two.bog.worth.length
noncomputable def yI:Cs:=Ns tb th tn um tW
noncomputable def yH:Cs:=Ns tb th tn yI gW
noncomputable def yG:Cs:=Ns tb th tn yH gW
noncomputable def yF:Cs:=Ns tb th tn yG tC1
noncomputable def nA:Cs:=Ns tb th tn yF gW
theorem sV:newE tb th tn=0:=by kernel_rfl
theorem s_0:Oz tb um tW=8:=by kernel_rfl
theorem s_1:Oz tb yI gW=0:=by kernel_rfl
theorem s_2:Oz tb yH gW=6:=by kernel_rfl
theorem s_3:Oz tb yG tC1=0:=by kernel_rfl
theorem s_4:Oz tb yF gW=0:=by kernel_rfl
theorem s_m:nA.EL=6:=by kernel_rfl
theorem s_c:nA.cut=3:=by kernel_rfl
theorem s_w:yE [tD]=[54,57,54,50,51,57,32,100,97,121,10]:=by kernel_rfl
theorem yx:uK [tD]:=⟨by decide,fun i hi=>by
 obtain rfl:i=0:=by simpa using hi
 show (3:Nat) < 2000000
 decide⟩
theorem fT:Fn tb th tn:=JJ sV
theorem ok0:C9 tb th tn um:=J5 fT
theorem ok1:C9 tb th tn yI:=Tq fT ok0 _
theorem ok2:C9 tb th tn yH:=Tq fT ok1 _
theorem ok3:C9 tb th tn yG:=Tq fT ok2 _
theorem ok4:C9 tb th tn yF:=Tq fT ok3 _
theorem ok5:C9 tb th tn nA:=Tq fT ok4 _
theorem g59:BA Tryz.prog 59 [.dv (RX tb),.dv (GX th),.dv (i64 tn)] (Bj []) ⟨[.pt 100000 0 0,.dv (i64 0)],Bj [(100000,Il tb th tn um),(100001,Jz um.orders)]⟩:=M9 tb th tn sV
theorem d_0:BA Tryz.prog 24 [.pt 100000 0 0,.dv (Cg tW)] (Bj (pair tb th tn um 0 100004)) ⟨[.dv (i64 8)],Bj (pair tb th tn yI 0 0)⟩:=by have h:=f24 tb th tn um fT ok0 tW (by decide);rwa [s_0] at h
theorem d_1:BA Tryz.prog 24 [.pt 100000 0 0,.dv (Cg gW)] (Bj (pair tb th tn yI 0 100004)) ⟨[.dv (i64 0)],Bj (pair tb th tn yH 0 0)⟩:=by have h:=f24 tb th tn yI fT ok1 gW (by decide);rwa [s_1] at h
theorem d_2:BA Tryz.prog 24 [.pt 100000 0 0,.dv (Cg gW)] (Bj (pair tb th tn yH 0 100004)) ⟨[.dv (i64 6)],Bj (pair tb th tn yG 0 0)⟩:=by have h:=f24 tb th tn yH fT ok2 gW (by decide);rwa [s_2] at h
theorem d_3:BA Tryz.prog 24 [.pt 100000 0 0,.dv (Cg tC1)] (Bj (pair tb th tn yG 0 100004)) ⟨[.dv (i64 0)],Bj (pair tb th tn yF 0 0)⟩:=by have h:=f24 tb th tn yG fT ok3 tC1 (by decide);rwa [s_3] at h
theorem d_4:BA Tryz.prog 24 [.pt 100000 0 0,.dv (Cg gW)] (Bj (pair tb th tn yF 0 100004)) ⟨[.dv (i64 0)],Bj (pair tb th tn nA 0 0)⟩:=by have h:=f24 tb th tn yF fT ok4 gW (by decide);rwa [s_4] at h
theorem g_m:BA Tryz.prog 52 [.pt 100000 0 0] (Bj (pair tb th tn nA 0 100004)) ⟨[.dv (i64 6)],Bj (pair tb th tn nA 0 100004)⟩:=by have h:=(f52 tb th tn nA fT ok5);rwa [s_m] at h
theorem g_c:BA Tryz.prog 53 [.pt 100000 0 0] (Bj (pair tb th tn nA 0 100004)) ⟨[.dv (i64 3)],Bj (pair tb th tn nA 0 100004)⟩:=by have h:=(f53 tb th tn nA fT ok5);rwa [s_c] at h
set_option maxHeartbeats 4000000 in
set_option maxRecDepth 100000 in
theorem f20:AR Tryz.prog 20 [] (.one (.dv (.bool true))):=by
 refine Bv Tryz.func20 rfl rfl (by rw [Tryz.ntmps20];simp) fun cx hP hn hg=>?_
 rw [Tryz.ntmps20] at hn
 rw [Br,Bq]
 simp only [List.nil_append,List.append_nil,List.cons_append,BH,Nat.reduceAdd]
 refine sg ?_
 refine qv A9 ?_
 refine sg ?_
 refine qqA (f61) ?_
 refine qp (IJ uO) ?_
 refine qs (Cu Jy) ?_
 refine sg ?_
 refine qv (AB F8) ?_
 refine qv (AY Dw EC) ?_
 refine qv (AB F7) ?_
 refine qv (AY Dp Dt) ?_
 refine qv (AB Gc) ?_
 refine qv (AQ Aw Bw) ?_
 refine CY (g59) [] [] [100000,100001] ?_
 refine qv A8 ?_
 iterate 2 refine qv BZ ?_
 iterate 2 refine qv A9 ?_
 refine AL ?_
 refine sg ?_
 refine qv A8 ?_
 refine qv Ay ?_
 refine qx A8 (fun A0B=>?_) (fun A0B=>?_)
 ·exact absurd A0B ((by decide))
 refine qv A8 ?_
 refine KG L9 ?_
 refine qv Ae ?_
 refine Dy (hb:=(by decide)) (ht:=?_)
 refine Af ?_
 refine AL ?_
 refine sg ?_
 refine qv A8 ?_
 refine CY (d_0) [] [(100000,100000),(100001,100001)] [100000,100001] ?_
 refine qv Ay ?_
 refine qx A8 (fun A09=>?_) (fun A09=>?_)
 ·exact absurd A09 ((by decide))
 refine qv A8 ?_
 refine CY (d_1) [] [(100000,100000),(100001,100001)] [100000,100001] ?_
 refine qv Ay ?_
 refine qv Ae ?_
 refine qx A8 (fun J3=>?_) (fun J3=>?_)
 ·exact absurd J3 ((by decide))
 refine qv A8 ?_
 refine CY (d_2) [] [(100000,100000),(100001,100001)] [100000,100001] ?_
 refine qv Ay ?_
 refine qv Ae ?_
 refine qx A8 (fun A07=>?_) (fun A07=>?_)
 ·exact absurd A07 ((by decide))
 refine qv A8 ?_
 refine CY (d_3) [] [(100000,100000),(100001,100001)] [100000,100001] ?_
 refine qv Ay ?_
 refine qv Ae ?_
 refine qx A8 (fun kC=>?_) (fun kC=>?_)
 ·exact absurd kC ((by decide))
 refine qv A8 ?_
 refine CY (d_4) [] [(100000,100000),(100001,100001)] [100000,100001] ?_
 refine qv Ay ?_
 refine qv Ae ?_
 refine Dy (hb:=(by decide)) (ht:=?_)
 refine Af ?_
 refine sg ?_
 refine qr (FV CS YQ Dh) ?_
 refine Gv 47 47 (x:=GL [tD]) ?_ (hD:=EW (L:=[tD]) (st:=1) (by simp only [AA,reduceIte,Nat.reduceEqDiff]<;>rfl) rfl rfl (fun _=>trivial))
 refine CF (f41 [tD] yx) ?_
 refine qv A8 ?_
 iterate 2 refine qv BZ ?_
 iterate 2 refine qv A9 ?_
 refine sg ?_
 refine qv A8 ?_
 refine CY (g_m) [] [(100000,100000),(100001,100001)] [100000,100001] ?_
 refine qv Bl ?_
 refine qx A8 (fun XA=>?_) (fun XA=>?_)
 rotate_left
 ·exact absurd XA ((by decide))
 refine qv A8 ?_
 refine CY (g_c) [] [(100000,100000),(100001,100001)] [100000,100001] ?_
 refine qv Bl ?_
 refine qv Ae ?_
 refine qx A8 (fun jy=>?_) (fun jy=>?_)
 rotate_left
 ·exact absurd jy ((by decide))
 refine qv A8 ?_
 refine qv Bl ?_
 refine qv Ae ?_
 refine qx A8 (fun A00=>?_) (fun A00=>?_)
 rotate_left
 ·exact absurd A00 ((by decide))
 refine qv A8 ?_
 refine qv Qq ?_
 refine qv Ae ?_
 refine qv A9 ?_
 refine AV ?_
 exact x1 (hr:=Uq (by simp [s_w]))
end Go.Ab.Tryz
