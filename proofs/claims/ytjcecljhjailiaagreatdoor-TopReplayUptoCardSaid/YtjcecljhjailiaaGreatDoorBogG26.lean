/- BogQ8. -/
import Derived.Test.YtjcecljhjailiaaGreatDoorBogG25
import Derived.Test.YtjcecljhjailiaaGreatDoorBogG22
import Derived.Test.YtjcecljhjailiaaGreatDoorBogG07
set_option linter.all false
namespace Go.Ab.Tryz
open Go Go.Ab Go.Proofs Go.Ab.Ck Go.Ab.Gi
open Go.Ab.Heap (Az Ap BX)
open Go.Ab.Heap (Hp GX validate sm)
def nI (c:Cs):Int:=c.cut - c.loaded - sm (Az c.Ad) c.Ad.length
theorem VB {b:Bg} {h:Hp} {n:Int} {c:Cs} (ok:C9 b h n c):uK c.orders:=by
 refine ⟨by have:=ok.ord;omega,fun i hi=>?_⟩
 have:=ok.GL _ (List.getElem_mem hi)
 unfold Es at this
 simp only [Bool.and_eq_true,decide_eq_true_eq] at this
 omega
theorem kX:kN Tryz.prog 98 0=some (0,3):=by kernel_rfl
theorem kW:kN Tryz.prog 98 1=some (1,25):=by kernel_rfl
theorem kV:kN Tryz.prog 98 2=some (2,25):=by kernel_rfl
theorem kU:kN Tryz.prog 98 3=some (3,3):=by kernel_rfl
theorem kT:kN Tryz.prog 98 4=some (4,3):=by kernel_rfl
theorem kS:kN Tryz.prog 98 5=some (5,3):=by kernel_rfl
theorem kR:kN Tryz.prog 98 6=some (6,3):=by kernel_rfl
theorem kQ:kN Tryz.prog 98 7=some (7,4):=by kernel_rfl
theorem kP:kN Tryz.prog 98 8=some (8,30):=by kernel_rfl
theorem f50 (b:Bg) (h:Hp) (n:Int) (c:Cs) (F:Fn b h n) (ok:C9 b h n c):BA Tryz.prog 50 [.pt 100000 0 0] (Bj (pair b h n c 0 100004)) ⟨[.dv (i64 c.day)],Bj (pair b h n c 0 100004)⟩:=by
 refine EI Tryz.func50 rfl rfl (by rw [Tryz.ntmps50];simp) fun cx hP hn hg=>?_
 rw [Tryz.ntmps50] at hn
 refine CB ?_
 refine sg ?_
 refine qv A9 ?_
 refine sg ?_
 refine qv A8 ?_
 refine CY (f68 b h n c F ok) [] [(100000,100000),(100001,100001)] [100000,100001] ?_
 refine Fv kX Bw rfl ?_
 refine qv A9 ?_
 refine AV ?_
 exact xg [(100000,100000),(100001,100001)]
theorem f28 (b:Bg) (h:Hp) (n:Int) (c:Cs) (F:Fn b h n) (ok:C9 b h n c):BA Tryz.prog 28 [.pt 100000 0 0] (Bj (pair b h n c 0 100004)) ⟨[.dv (ints c.AU)],Bj (pair b h n c 0 100004)⟩:=by
 refine EI Tryz.func28 rfl rfl (by rw [Tryz.ntmps28];simp) fun cx hP hn hg=>?_
 rw [Tryz.ntmps28] at hn
 refine CB ?_
 refine sg ?_
 refine qv A9 ?_
 refine sg ?_
 refine qv A8 ?_
 refine CY (f68 b h n c F ok) [] [(100000,100000),(100001,100001)] [100000,100001] ?_
 refine Fv kW Bz rfl ?_
 refine qv A9 ?_
 refine AV ?_
 exact xg [(100000,100000),(100001,100001)]
theorem f26 (b:Bg) (h:Hp) (n:Int) (c:Cs) (F:Fn b h n) (ok:C9 b h n c):BA Tryz.prog 26 [.pt 100000 0 0] (Bj (pair b h n c 0 100004)) ⟨[.dv (ints c.Ad)],Bj (pair b h n c 0 100004)⟩:=by
 refine EI Tryz.func26 rfl rfl (by rw [Tryz.ntmps26];simp) fun cx hP hn hg=>?_
 rw [Tryz.ntmps26] at hn
 refine CB ?_
 refine sg ?_
 refine qv A9 ?_
 refine sg ?_
 refine qv A8 ?_
 refine CY (f68 b h n c F ok) [] [(100000,100000),(100001,100001)] [100000,100001] ?_
 refine Fv kV Bz rfl ?_
 refine qv A9 ?_
 refine AV ?_
 exact xg [(100000,100000),(100001,100001)]
theorem f51 (b:Bg) (h:Hp) (n:Int) (c:Cs) (F:Fn b h n) (ok:C9 b h n c):BA Tryz.prog 51 [.pt 100000 0 0] (Bj (pair b h n c 0 100004)) ⟨[.dv (i64 (c.Gj:Int))],Bj (pair b h n c 0 100004)⟩:=by
 refine EI Tryz.func51 rfl rfl (by rw [Tryz.ntmps51];simp) fun cx hP hn hg=>?_
 rw [Tryz.ntmps51] at hn
 refine CB ?_
 refine sg ?_
 refine qv A9 ?_
 refine sg ?_
 refine qv A8 ?_
 refine CY (f68 b h n c F ok) [] [(100000,100000),(100001,100001)] [100000,100001] ?_
 refine Fv kU Bw rfl ?_
 refine qv A9 ?_
 refine AV ?_
 exact xg [(100000,100000),(100001,100001)]
theorem f52 (b:Bg) (h:Hp) (n:Int) (c:Cs) (F:Fn b h n) (ok:C9 b h n c):BA Tryz.prog 52 [.pt 100000 0 0] (Bj (pair b h n c 0 100004)) ⟨[.dv (i64 c.EL)],Bj (pair b h n c 0 100004)⟩:=by
 refine EI Tryz.func52 rfl rfl (by rw [Tryz.ntmps52];simp) fun cx hP hn hg=>?_
 rw [Tryz.ntmps52] at hn
 refine CB ?_
 refine sg ?_
 refine qv A9 ?_
 refine sg ?_
 refine qv A8 ?_
 refine CY (f68 b h n c F ok) [] [(100000,100000),(100001,100001)] [100000,100001] ?_
 refine Fv kT Bw rfl ?_
 refine qv A9 ?_
 refine AV ?_
 exact xg [(100000,100000),(100001,100001)]
theorem f53 (b:Bg) (h:Hp) (n:Int) (c:Cs) (F:Fn b h n) (ok:C9 b h n c):BA Tryz.prog 53 [.pt 100000 0 0] (Bj (pair b h n c 0 100004)) ⟨[.dv (i64 c.cut)],Bj (pair b h n c 0 100004)⟩:=by
 refine EI Tryz.func53 rfl rfl (by rw [Tryz.ntmps53];simp) fun cx hP hn hg=>?_
 rw [Tryz.ntmps53] at hn
 refine CB ?_
 refine sg ?_
 refine qv A9 ?_
 refine sg ?_
 refine qv A8 ?_
 refine CY (f68 b h n c F ok) [] [(100000,100000),(100001,100001)] [100000,100001] ?_
 refine Fv kS Bw rfl ?_
 refine qv A9 ?_
 refine AV ?_
 exact xg [(100000,100000),(100001,100001)]
theorem f54 (b:Bg) (h:Hp) (n:Int) (c:Cs) (F:Fn b h n) (ok:C9 b h n c):BA Tryz.prog 54 [.pt 100000 0 0] (Bj (pair b h n c 0 100004)) ⟨[.dv (i64 c.loaded)],Bj (pair b h n c 0 100004)⟩:=by
 refine EI Tryz.func54 rfl rfl (by rw [Tryz.ntmps54];simp) fun cx hP hn hg=>?_
 rw [Tryz.ntmps54] at hn
 refine CB ?_
 refine sg ?_
 refine qv A9 ?_
 refine sg ?_
 refine qv A8 ?_
 refine CY (f68 b h n c F ok) [] [(100000,100000),(100001,100001)] [100000,100001] ?_
 refine Fv kR Bw rfl ?_
 refine qv A9 ?_
 refine AV ?_
 exact xg [(100000,100000),(100001,100001)]
theorem f56 (b:Bg) (h:Hp) (n:Int) (c:Cs) (F:Fn b h n) (ok:C9 b h n c):BA Tryz.prog 56 [.pt 100000 0 0] (Bj (pair b h n c 0 100004)) ⟨[.dv (.bool c.shut)],Bj (pair b h n c 0 100004)⟩:=by
 refine EI Tryz.func56 rfl rfl (by rw [Tryz.ntmps56];simp) fun cx hP hn hg=>?_
 rw [Tryz.ntmps56] at hn
 refine CB ?_
 refine sg ?_
 refine qv A9 ?_
 refine sg ?_
 refine qv A8 ?_
 refine CY (f68 b h n c F ok) [] [(100000,100000),(100001,100001)] [100000,100001] ?_
 refine Fv kQ YO rfl ?_
 refine qv A9 ?_
 refine AV ?_
 exact xg [(100000,100000),(100001,100001)]
theorem f34 (b:Bg) (h:Hp) (n:Int) (c:Cs) (F:Fn b h n) (ok:C9 b h n c):BA Tryz.prog 34 [.pt 100000 0 0] (Bj (pair b h n c 0 100004)) ⟨[.dv (Cg (Am 0 c.orders))],Bj (pair b h n c 0 100004)⟩:=by
 refine EI Tryz.func34 rfl rfl (by rw [Tryz.ntmps34];simp) fun cx hP hn hg=>?_
 rw [Tryz.ntmps34] at hn
 refine CB ?_
 refine sg ?_
 refine qv A9 ?_
 refine sg ?_
 refine qv A8 ?_
 refine CY (f68 b h n c F ok) [] [(100000,100000),(100001,100001)] [100000,100001] ?_
 refine Fv kP PS rfl ?_
 refine CF (f81 c.orders (VB ok)) ?_
 refine qv A9 ?_
 refine AV ?_
 exact xg [(100000,100000),(100001,100001)]
theorem f89 (c:Cs) (h1:-1000 <= c.cut /\ c.cut <= 1000) (h2:-1000 <= c.loaded /\ c.loaded <= 1000) (ht:c.Ad.length <= 1000) (hb:∀ i,i < c.Ad.length -> 0 <= Az c.Ad i /\ Az c.Ad i <= 1000):AR Tryz.prog 89 [dSt c] (.one (.dv (i64 (nI c)))):=by
 have hs:∀ k,k <= c.Ad.length -> 0 <= sm (Az c.Ad) k /\ sm (Az c.Ad) k <= 1000 * k:=fun k=>by
  induction k with
  | zero=>intro _;simp [sm]
  | succ k ih =>
   intro hk
   have h3:=ih (by omega)
   have h4:=hb k (by omega)
   simp only [sm]
   push_cast
   omega
 refine Bv Tryz.func89 rfl rfl (by rw [Tryz.ntmps89];simp) fun cx hP hn hg=>?_
 rw [Tryz.ntmps89] at hn
 rw [Br,Bq]
 simp only [List.nil_append,List.append_nil,List.cons_append,BH,Nat.reduceAdd]
 refine sg ?_
 refine qp Bu ?_
 refine qv A9 ?_
 refine sg ?_
 refine qv (AB KR) ?_
 refine qv (AQ Aw Bw) ?_
 refine qv (AB OU) ?_
 refine qv (AQ Aw Bw) ?_
 refine qv Gf ?_
 refine qv A9 ?_
 refine AL ?_
 refine sg ?_
 refine qv (AB FJ) ?_
 refine qv (AQ Av Bz) ?_
 refine qv (BD Cj) ?_
 refine qv A8 ?_
 refine BI ?_
 refine Ao (ι:=Nat) (fun i=>⟨lk [(3,.dv (i64 (c.cut - c.loaded - sm (Az c.Ad) i))),(12,.dv (ints (c.Ad))),(13,.dv (i64 ((c.Ad.length:Int)))),(14,.dv (i64 (i:Nat)))],AA []⟩) (fun i=>i <= c.Ad.length) (fun i=>c.Ad.length - i) 0 (by simp) (tl [] (hF:=by simp [DK,AX,lk,AA,isLive,AZ,sm]) (hM:=by simp [Cm,Ar,AX,Aa,lk,AA,isLive,AZ,BO,BN,Al,BL,BP,BS,BQ,BR,sm])) ?_
 intro i BM
 refine sg ?_
 refine qv BK ?_
 refine AL ?_
 refine cd (fun hc0=>?_) (fun hc0=>?_)
 ·try simp at hc0
  refine Af ?_
  refine AL ?_
  refine BI ?_
  refine sg ?_
  have hi:i < c.Ad.length:=by omega
  have hgi:=Ap hi
  have hbi:=hb i hi
  have hsi:=hs i (by omega)
  have hsn:c.cut - c.loaded - sm (Az c.Ad) (i+1)=c.cut - c.loaded - sm (Az c.Ad) i - Az c.Ad i:=by simp only [sm];omega
  first | refine qv (BF BG Aw) ?_ | refine qv (Bf BG Aw) ?_
  refine qv (Bb Aw Bw) ?_
  refine qv A9 ?_
  refine rg ?_
  iterate 2 refine qv A8 ?_
  refine qv Gf ?_
  refine qv A9 ?_
  refine rg ?_
  refine qv Aq ?_
  refine qv A8 ?_
  exact ⟨i+1,hi,(by simp only;omega),(tl [] (hF:=by simp [DK,AX,lk,AA,isLive,AZ,hsn]) (hM:=by simp [Cm,Ar,AX,Aa,lk,AA,isLive,AZ,BO,BN,Al,BL,BP,BS,BQ,BR,hsn]))⟩
 ·try simp at hc0
  refine Ai ?_
  refine sg ?_
  refine qv A8 ?_
  refine qv A9 ?_
  refine AV ?_
  obtain rfl:i=c.Ad.length:=by omega
  exact x1 (hr:=(Cc (by unfold nI;rfl)))
theorem f55 (b:Bg) (h:Hp) (n:Int) (c:Cs) (F:Fn b h n) (ok:C9 b h n c):BA Tryz.prog 55 [.pt 100000 0 0] (Bj (pair b h n c 0 100004)) ⟨[.dv (i64 (nI c))],Bj (pair b h n c 0 100004)⟩:=by
 have hcu:=ok.lV
 have hl0:=ok.vZ
 have hlb:=ok.ldb
 have htl:=ok.MV
 have h5:=F.vh.n5
 have htb:∀ j,j < c.Ad.length -> 0 <= Az c.Ad j /\ Az c.Ad j <= 1000:=fun j hj=>by have:=(ok.t30 F.vh).bd j (by omega);omega
 refine EI Tryz.func55 rfl rfl (by rw [Tryz.ntmps55];simp) fun cx hP hn hg=>?_
 rw [Tryz.ntmps55] at hn
 refine CB ?_
 refine sg ?_
 refine qv A9 ?_
 refine sg ?_
 refine qv A8 ?_
 refine CY (f68 b h n c F ok) [] [(100000,100000),(100001,100001)] [100000,100001] ?_
 refine CF (f89 c (by omega) (by omega) (by omega) htb) ?_
 refine qv A9 ?_
 refine AV ?_
 exact xg [(100000,100000),(100001,100001)]
end Go.Ab.Tryz
