/- The functions of the bog laws: cuttings, part 81. The walks are written by wip/gen/gw.py. -/
import Derived.Test.YtjcecljhjailiaaGreatDoorBogU4
import Derived.Test.YtjcecljhjailiaaGreatDoorBogS8
import Derived.Test.YtjcecljhjailiaaGreatDoorBogS5
import Derived.Test.YtjcecljhjailiaaGreatDoorBogG07
set_option linter.all false
namespace Go.Ab.Tryz
open Go Go.Ab Go.Proofs Go.Ab.Ck Go.Ab.Gi
open Go.Ab.Heap (Az Ap BX)
open Go.Ab.Heap (Hp GX validate sm)
abbrev c00:Cs:=⟨0,[],[],0,0,0,0,false,[]⟩
theorem bO (T:Tx):AR Tryz.prog 24 [.CU,Cg T] (.one (.dv (i64 1))):=by
 refine Bv Tryz.func24 rfl rfl (by rw [Tryz.ntmps24];simp) fun cx hP hn hg=>?_
 rw [Tryz.ntmps24] at hn
 rw [Br,Bq]
 simp only [List.nil_append,List.append_nil,List.cons_append,BH,Nat.reduceAdd]
 refine sg ?_
 refine qv A9 ?_
 refine AL ?_
 refine sg ?_
 refine qv A8 ?_
 refine qv (P:=Tryz.prog) (by simp only [AP,Dj,En,DU,Ip,Option.map_some,St.look,St.ev,lk,AA,AO,Ah,Ag,reduceIte,Nat.reduceAdd,Nat.reduceEqDiff,Nat.reduceMul,L9,if_true];rfl) ?_
 refine G5 (hb:=(by rfl)) (ht:=?_)
 refine sg ?_
 refine qv A9 ?_
 refine AV ?_
 exact x1 (hr:=(Cc))
set_option maxRecDepth 100000 in
theorem GH:BA Tryz.prog 68 [.dv .CU] (Bj []) ⟨[.dv (dSt c00)],Bj []⟩:=by
 refine EI Tryz.func68 rfl rfl (by rw [Tryz.ntmps68];simp) fun cx hP hn hg=>?_
 rw [Tryz.ntmps68] at hn
 refine CB ?_
 refine sg ?_
 refine qp (IJ Vm) ?_
 refine AL ?_
 refine sg ?_
 refine qv A8 ?_
 refine qv (P:=Tryz.prog) (by simp only [AP,Dj,En,DU,Ip,Option.map_some,St.look,St.ev,lk,AA,AO,Ah,Ag,reduceIte,Nat.reduceAdd,Nat.reduceEqDiff,Nat.reduceMul,L9,if_true];rfl) ?_
 refine G5 (hb:=(by rfl)) (ht:=?_)
 refine sg ?_
 refine qv (DC zH Vm) ?_
 refine qs (Cu L8) ?_
 refine AV ?_
 exact xg [] (hs:=by (simp only [DX,Dr,L8,Ve,St.look,St.ev,lk,AA,AO,Ah,Ag,reduceIte,Nat.reduceAdd,Nat.reduceEqDiff,Nat.reduceMul];rfl)) (h1:=by simp only [Aa,AX];exact ⟨Tt (CV Bo (CV Data.Bh (CV Data.Bh (CV Bo (CV Bo (CV Bo (CV Bo (CV Bo (CV Data.Bh FI))))))))),trivial⟩)
theorem bI:AR Tryz.prog 50 [.CU] (.one (.dv (i64 0))):=by
 refine Bv Tryz.func50 rfl rfl (by rw [Tryz.ntmps50];simp) fun cx hP hn hg=>?_
 rw [Tryz.ntmps50] at hn
 rw [Br,Bq]
 simp only [List.nil_append,List.append_nil,List.cons_append,BH,Nat.reduceAdd]
 refine sg ?_
 refine qv A9 ?_
 refine sg ?_
 refine qv A8 ?_
 refine CY (GH) [] [] [] ?_
 refine Fv kX Bw rfl ?_
 refine qv A9 ?_
 refine AV ?_
 exact x1 (hr:=(Cc))
theorem bM:BA Tryz.prog 28 [.dv .CU] (Bj []) ⟨[.dv (ints [])],Bj []⟩:=by
 refine EI Tryz.func28 rfl rfl (by rw [Tryz.ntmps28];simp) fun cx hP hn hg=>?_
 rw [Tryz.ntmps28] at hn
 refine CB ?_
 refine sg ?_
 refine qv A9 ?_
 refine sg ?_
 refine qv A8 ?_
 refine CY (GH) [] [] [] ?_
 refine Fv kW Bz rfl ?_
 refine qv A9 ?_
 refine AV ?_
 exact xg []
theorem bN:BA Tryz.prog 26 [.dv .CU] (Bj []) ⟨[.dv (ints [])],Bj []⟩:=by
 refine EI Tryz.func26 rfl rfl (by rw [Tryz.ntmps26];simp) fun cx hP hn hg=>?_
 rw [Tryz.ntmps26] at hn
 refine CB ?_
 refine sg ?_
 refine qv A9 ?_
 refine sg ?_
 refine qv A8 ?_
 refine CY (GH) [] [] [] ?_
 refine Fv kV Bz rfl ?_
 refine qv A9 ?_
 refine AV ?_
 exact xg []
theorem bH:AR Tryz.prog 51 [.CU] (.one (.dv (i64 0))):=by
 refine Bv Tryz.func51 rfl rfl (by rw [Tryz.ntmps51];simp) fun cx hP hn hg=>?_
 rw [Tryz.ntmps51] at hn
 rw [Br,Bq]
 simp only [List.nil_append,List.append_nil,List.cons_append,BH,Nat.reduceAdd]
 refine sg ?_
 refine qv A9 ?_
 refine sg ?_
 refine qv A8 ?_
 refine CY (GH) [] [] [] ?_
 refine Fv kU Bw rfl ?_
 refine qv A9 ?_
 refine AV ?_
 exact x1 (hr:=(Cc))
theorem bG:AR Tryz.prog 52 [.CU] (.one (.dv (i64 0))):=by
 refine Bv Tryz.func52 rfl rfl (by rw [Tryz.ntmps52];simp) fun cx hP hn hg=>?_
 rw [Tryz.ntmps52] at hn
 rw [Br,Bq]
 simp only [List.nil_append,List.append_nil,List.cons_append,BH,Nat.reduceAdd]
 refine sg ?_
 refine qv A9 ?_
 refine sg ?_
 refine qv A8 ?_
 refine CY (GH) [] [] [] ?_
 refine Fv kT Bw rfl ?_
 refine qv A9 ?_
 refine AV ?_
 exact x1 (hr:=(Cc))
theorem bF:AR Tryz.prog 53 [.CU] (.one (.dv (i64 0))):=by
 refine Bv Tryz.func53 rfl rfl (by rw [Tryz.ntmps53];simp) fun cx hP hn hg=>?_
 rw [Tryz.ntmps53] at hn
 rw [Br,Bq]
 simp only [List.nil_append,List.append_nil,List.cons_append,BH,Nat.reduceAdd]
 refine sg ?_
 refine qv A9 ?_
 refine sg ?_
 refine qv A8 ?_
 refine CY (GH) [] [] [] ?_
 refine Fv kS Bw rfl ?_
 refine qv A9 ?_
 refine AV ?_
 exact x1 (hr:=(Cc))
theorem bE:AR Tryz.prog 54 [.CU] (.one (.dv (i64 0))):=by
 refine Bv Tryz.func54 rfl rfl (by rw [Tryz.ntmps54];simp) fun cx hP hn hg=>?_
 rw [Tryz.ntmps54] at hn
 rw [Br,Bq]
 simp only [List.nil_append,List.append_nil,List.cons_append,BH,Nat.reduceAdd]
 refine sg ?_
 refine qv A9 ?_
 refine sg ?_
 refine qv A8 ?_
 refine CY (GH) [] [] [] ?_
 refine Fv kR Bw rfl ?_
 refine qv A9 ?_
 refine AV ?_
 exact x1 (hr:=(Cc))
theorem bC:AR Tryz.prog 56 [.CU] (.one (.dv (.bool false))):=by
 refine Bv Tryz.func56 rfl rfl (by rw [Tryz.ntmps56];simp) fun cx hP hn hg=>?_
 rw [Tryz.ntmps56] at hn
 rw [Br,Bq]
 simp only [List.nil_append,List.append_nil,List.cons_append,BH,Nat.reduceAdd]
 refine sg ?_
 refine qv A9 ?_
 refine sg ?_
 refine qv A8 ?_
 refine CY (GH) [] [] [] ?_
 refine Fv kQ YO rfl ?_
 refine qv A9 ?_
 refine AV ?_
 exact x1 (hr:=(Ej))
theorem bK:AR Tryz.prog 34 [.CU] (.one (.dv (Cg []))):=by
 have h81:=f81 [] ⟨by decide,fun i hi=>absurd hi (by simp)⟩
 refine Bv Tryz.func34 rfl rfl (by rw [Tryz.ntmps34];simp) fun cx hP hn hg=>?_
 rw [Tryz.ntmps34] at hn
 rw [Br,Bq]
 simp only [List.nil_append,List.append_nil,List.cons_append,BH,Nat.reduceAdd]
 refine sg ?_
 refine qv A9 ?_
 refine sg ?_
 refine qv A8 ?_
 refine CY (GH) [] [] [] ?_
 refine Fv kP PS rfl ?_
 refine CF (h81) ?_
 refine qv A9 ?_
 refine AV ?_
 exact x1 (hr:=(Uq))
theorem bD:AR Tryz.prog 55 [.CU] (.one (.dv (i64 0))):=by
 have h89:=f89 c00 (by decide) (by decide) (by decide) (fun i hi=>absurd hi (by simp))
 refine Bv Tryz.func55 rfl rfl (by rw [Tryz.ntmps55];simp) fun cx hP hn hg=>?_
 rw [Tryz.ntmps55] at hn
 rw [Br,Bq]
 simp only [List.nil_append,List.append_nil,List.cons_append,BH,Nat.reduceAdd]
 refine sg ?_
 refine qv A9 ?_
 refine sg ?_
 refine qv A8 ?_
 refine CY (GH) [] [] [] ?_
 refine CF (h89) ?_
 refine qv A9 ?_
 refine AV ?_
 exact x1 (hr:=(Cc))
theorem bJ:AR Tryz.prog 49 [.CU] (.one (.dv (.bool false))):=by
 refine Bv Tryz.func49 rfl rfl (by rw [Tryz.ntmps49];simp) fun cx hP hn hg=>?_
 rw [Tryz.ntmps49] at hn
 rw [Br,Bq]
 simp only [List.nil_append,List.append_nil,List.cons_append,BH,Nat.reduceAdd]
 refine sg ?_
 refine qv A9 ?_
 refine AL ?_
 refine sg ?_
 refine qv A8 ?_
 refine qv (P:=Tryz.prog) (by simp only [AP,Dj,En,DU,Ip,Option.map_some,St.look,St.ev,lk,AA,AO,Ah,Ag,reduceIte,Nat.reduceAdd,Nat.reduceEqDiff,Nat.reduceMul,L9,if_true];rfl) ?_
 refine G5 (hb:=(by rfl)) (ht:=?_)
 refine sg ?_
 refine qv A9 ?_
 refine AV ?_
 exact x1 (hr:=(Ej))
set_option maxHeartbeats 4000000 in
set_option maxRecDepth 100000 in
theorem qd (f:Fm) (hf:LV f) (T:Tx) (hE:newE f.bog f.heaps f.need ≠ 0):AR Tryz.prog 14 [Vk f,Cg T] (.one (.dv (.bool true))):=by
 refine Bv Tryz.func14 rfl rfl (by rw [Tryz.ntmps14];simp) fun cx hP hn hg=>?_
 rw [Tryz.ntmps14] at hn
 rw [Br,Bq]
 simp only [List.nil_append,List.append_nil,List.cons_append,BH,Nat.reduceAdd]
 refine sg ?_
 refine qp Bu ?_
 refine qv A9 ?_
 refine sg ?_
 refine qv A9 ?_
 refine AL ?_
 refine sg ?_
 iterate 2 refine qv A8 ?_
 refine CF (bO T) ?_
 refine qv Ay ?_
 refine qx A8 (fun OQ=>?_) (fun OQ=>?_)
 ·exact absurd OQ ((by simp))
 refine qv A8 ?_
 refine CF (bI) ?_
 refine qv A8 ?_
 refine CF (bH) ?_
 refine qv Aq ?_
 refine qv A8 ?_
 refine CF (bG) ?_
 refine qv Aq ?_
 refine qv A8 ?_
 refine CF (bF) ?_
 refine qv Aq ?_
 refine qv A8 ?_
 refine CF (bE) ?_
 refine qv Aq ?_
 refine qv A8 ?_
 refine CF (bD) ?_
 refine qv Aq ?_
 refine qv Ay ?_
 refine qv Ae ?_
 refine qx A8 (fun R5=>?_) (fun R5=>?_)
 ·exact absurd R5 ((by simp))
 refine qv A8 ?_
 refine CY (bM) [] [] [] ?_
 refine qv (BD Cj) ?_
 refine qv Ay ?_
 refine qv Ae ?_
 refine qx A8 (fun XC=>?_) (fun XC=>?_)
 ·exact absurd XC ((by simp))
 refine qv A8 ?_
 refine CY (bN) [] [] [] ?_
 refine qv (BD Cj) ?_
 refine qv Ay ?_
 refine qv Ae ?_
 refine qx A8 (fun NM=>?_) (fun NM=>?_)
 ·exact absurd NM ((by simp))
 refine qv A8 ?_
 refine CF (bC) ?_
 refine qv Ae ?_
 refine qx A8 (fun PE=>?_) (fun PE=>?_)
 ·exact absurd PE ((by simp))
 refine qv A8 ?_
 refine CF (bK) ?_
 refine qv DY ?_
 refine qv Ae ?_
 refine qx A8 (fun XA=>?_) (fun XA=>?_)
 ·exact absurd XA ((by simp))
 refine qv A8 ?_
 refine CF (bJ) ?_
 refine qv Ae ?_
 refine Dy (hb:=(by rfl)) (ht:=?_)
 refine Af ?_
 refine AL ?_
 refine sg ?_
 refine qv (AY Jy LA) ?_
 refine CF (f18 f hf.1 hf.2) ?_
 refine cd (fun hc1=>?_) (fun hc1=>?_)
 ·skip
  refine sg ?_
  refine CF (f20) ?_
  refine qv A9 ?_
  refine AV ?_
  exact x1 (hr:=(Ej))
 ·skip
  refine Af ?_
  refine sg ?_
  refine qv (AY Jy LA) ?_
  refine CY (bP f hE) [] [] [] ?_
  refine qv A8 ?_
  iterate 3 refine qv BZ ?_
  iterate 3 refine qv A9 ?_
  refine AL ?_
  refine sg ?_
  refine qv A8 ?_
  refine qv CP ?_
  refine G5 (hb:=(by rfl)) (ht:=?_)
  refine sg ?_
  refine qv (AY Jy LA) ?_
  refine CF (f22 f hE) ?_
  refine qv A9 ?_
  refine AV ?_
  exact x1 (hr:=(Ej))
set_option maxHeartbeats 4000000 in
set_option maxRecDepth 100000 in
theorem wm (f:Fm) (hf:LV f) (T:Tx) (hE:newE f.bog f.heaps f.need=0):AR Tryz.prog 14 [Vk f,Cg T] (.one (.dv (.bool true))):=by
 have F:=JJ hE
 have ok0:=J5 F
 refine Bv Tryz.func14 rfl rfl (by rw [Tryz.ntmps14];simp) fun cx hP hn hg=>?_
 rw [Tryz.ntmps14] at hn
 rw [Br,Bq]
 simp only [List.nil_append,List.append_nil,List.cons_append,BH,Nat.reduceAdd]
 refine sg ?_
 refine qp Bu ?_
 refine qv A9 ?_
 refine sg ?_
 refine qv A9 ?_
 refine AL ?_
 refine sg ?_
 iterate 2 refine qv A8 ?_
 refine CF (bO T) ?_
 refine qv Ay ?_
 refine qx A8 (fun OQ=>?_) (fun OQ=>?_)
 ·exact absurd OQ ((by simp))
 refine qv A8 ?_
 refine CF (bI) ?_
 refine qv A8 ?_
 refine CF (bH) ?_
 refine qv Aq ?_
 refine qv A8 ?_
 refine CF (bG) ?_
 refine qv Aq ?_
 refine qv A8 ?_
 refine CF (bF) ?_
 refine qv Aq ?_
 refine qv A8 ?_
 refine CF (bE) ?_
 refine qv Aq ?_
 refine qv A8 ?_
 refine CF (bD) ?_
 refine qv Aq ?_
 refine qv Ay ?_
 refine qv Ae ?_
 refine qx A8 (fun R5=>?_) (fun R5=>?_)
 ·exact absurd R5 ((by simp))
 refine qv A8 ?_
 refine CY (bM) [] [] [] ?_
 refine qv (BD Cj) ?_
 refine qv Ay ?_
 refine qv Ae ?_
 refine qx A8 (fun XC=>?_) (fun XC=>?_)
 ·exact absurd XC ((by simp))
 refine qv A8 ?_
 refine CY (bN) [] [] [] ?_
 refine qv (BD Cj) ?_
 refine qv Ay ?_
 refine qv Ae ?_
 refine qx A8 (fun NM=>?_) (fun NM=>?_)
 ·exact absurd NM ((by simp))
 refine qv A8 ?_
 refine CF (bC) ?_
 refine qv Ae ?_
 refine qx A8 (fun PE=>?_) (fun PE=>?_)
 ·exact absurd PE ((by simp))
 refine qv A8 ?_
 refine CF (bK) ?_
 refine qv DY ?_
 refine qv Ae ?_
 refine qx A8 (fun XA=>?_) (fun XA=>?_)
 ·exact absurd XA ((by simp))
 refine qv A8 ?_
 refine CF (bJ) ?_
 refine qv Ae ?_
 refine Dy (hb:=(by rfl)) (ht:=?_)
 refine Af ?_
 refine AL ?_
 refine sg ?_
 refine qv (AY Jy LA) ?_
 refine CF (f18 f hf.1 hf.2) ?_
 refine cd (fun hc1=>?_) (fun hc1=>?_)
 ·skip
  refine sg ?_
  refine CF (f20) ?_
  refine qv A9 ?_
  refine AV ?_
  exact x1 (hr:=(Ej))
 ·skip
  refine Af ?_
  refine sg ?_
  refine qv (AY Jy LA) ?_
  refine CY (ku f hE) [] [] [100000,100001,100002,100003,100004,100005] ?_
  refine qv A8 ?_
  iterate 3 refine qv BZ ?_
  iterate 3 refine qv A9 ?_
  refine AL ?_
  refine sg ?_
  refine qv A8 ?_
  refine qv CP ?_
  refine Dy (hb:=(by rfl)) (ht:=?_)
  refine Af ?_
  refine sg ?_
  iterate 2 refine qv A8 ?_
  refine CY (f31 f.bog f.heaps f.need (cs0 f.bog.worth.length) F ok0) [] [(100000,100000),(100001,100001),(100002,100002),(100003,100003),(100004,100004),(100005,100005)] [100000,100001,100002,100003,100004,100005] ?_
  refine qx A8 (fun fB=>?_) (fun fB=>?_)
  rotate_left
  ·exact absurd fB ((by simp))
  refine qv A8 ?_
  refine CY (f49 f.bog f.heaps f.need (cs0 f.bog.worth.length) F ok0 jB) [] [(100000,100000),(100001,100001)] [100000,100001] ?_
  refine qv Ae ?_
  refine qx A8 (fun zu=>?_) (fun zu=>?_)
  rotate_left
  ·exact absurd zu ((by simp))
  refine CF (f20) ?_
  refine qv Ae ?_
  refine qv A9 ?_
  refine AV ?_
  exact x1 (hr:=(Ej))
theorem f14 (f:Fm) (hf:LV f) (T:Tx):AR Tryz.prog 14 [Vk f,Cg T] (.one (.dv (.bool true))):=by
 by_cases hE:newE f.bog f.heaps f.need=0
 ·exact wm f hf T hE
 ·exact qd f hf T hE
end Go.Ab.Tryz
