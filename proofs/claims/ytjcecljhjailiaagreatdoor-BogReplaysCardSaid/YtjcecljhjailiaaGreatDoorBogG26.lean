/- BogQ8. -/
import Derived.Test.YtjcecljhjailiaaGreatDoorBogG25
import Derived.Test.YtjcecljhjailiaaGreatDoorBogG22
import Derived.Test.YtjcecljhjailiaaGreatDoorBogG07
set_option linter.all false
namespace Go.Ab.Tryz
open Go Go.Ab Go.Proofs Go.Ab.Ci Go.Ab.Gx
open Go.Ab.Heap (Az Ah BZ)
open Go.Ab.Heap (Hp Et validate sm)
def Qt (c:Cs):Int:=c.cut - c.loaded - sm (Az c.AX) c.AX.length
theorem Xb {b:Bg} {h:Hp} {n:Int} {c:Cs} (ok:C8 b h n c):xK c.orders:=by
 refine ⟨by have:=ok.ord;omega,fun i hi=>?_⟩
 have:=ok.Gi _ (List.getElem_mem hi)
 unfold FH at this
 simp only [Bool.and_eq_true,decide_eq_true_eq] at this
 omega
theorem zW:og Tryz.prog 98 0=some (0,3):=by kernel_rfl
theorem zV:og Tryz.prog 98 1=some (1,25):=by kernel_rfl
theorem zU:og Tryz.prog 98 2=some (2,25):=by kernel_rfl
theorem zT:og Tryz.prog 98 3=some (3,3):=by kernel_rfl
theorem zS:og Tryz.prog 98 4=some (4,3):=by kernel_rfl
theorem zR:og Tryz.prog 98 5=some (5,3):=by kernel_rfl
theorem zQ:og Tryz.prog 98 6=some (6,3):=by kernel_rfl
theorem zP:og Tryz.prog 98 7=some (7,4):=by kernel_rfl
theorem zO:og Tryz.prog 98 8=some (8,30):=by kernel_rfl
theorem f50 (b:Bg) (h:Hp) (n:Int) (c:Cs) (F:Fn b h n) (ok:C8 b h n c):Aw Tryz.prog 50 [.pt 100000 0 0] (Ba (pair b h n c 0 100004)) ⟨[.dv (i64 c.day)],Ba (pair b h n c 0 100004)⟩:=by
 refine DC Tryz.func50 rfl rfl (by rw [Tryz.ntmps50];simp) fun cx hP hn hg=>?_
 rw [Tryz.ntmps50] at hn
 refine Bj ?_
 refine sg ?_
 refine qv A9 ?_
 refine sg ?_
 refine qv A8 ?_
 refine Dx (f68 b h n c F ok) [] [(100000,100000),(100001,100001)] [100000,100001] ?_
 refine OQ zW Br rfl ?_
 refine qv A9 ?_
 refine AP ?_
 exact xg [(100000,100000),(100001,100001)]
theorem f28 (b:Bg) (h:Hp) (n:Int) (c:Cs) (F:Fn b h n) (ok:C8 b h n c):Aw Tryz.prog 28 [.pt 100000 0 0] (Ba (pair b h n c 0 100004)) ⟨[.dv (ints c.AU)],Ba (pair b h n c 0 100004)⟩:=by
 refine DC Tryz.func28 rfl rfl (by rw [Tryz.ntmps28];simp) fun cx hP hn hg=>?_
 rw [Tryz.ntmps28] at hn
 refine Bj ?_
 refine sg ?_
 refine qv A9 ?_
 refine sg ?_
 refine qv A8 ?_
 refine Dx (f68 b h n c F ok) [] [(100000,100000),(100001,100001)] [100000,100001] ?_
 refine OQ zV Bl rfl ?_
 refine qv A9 ?_
 refine AP ?_
 exact xg [(100000,100000),(100001,100001)]
theorem f26 (b:Bg) (h:Hp) (n:Int) (c:Cs) (F:Fn b h n) (ok:C8 b h n c):Aw Tryz.prog 26 [.pt 100000 0 0] (Ba (pair b h n c 0 100004)) ⟨[.dv (ints c.AX)],Ba (pair b h n c 0 100004)⟩:=by
 refine DC Tryz.func26 rfl rfl (by rw [Tryz.ntmps26];simp) fun cx hP hn hg=>?_
 rw [Tryz.ntmps26] at hn
 refine Bj ?_
 refine sg ?_
 refine qv A9 ?_
 refine sg ?_
 refine qv A8 ?_
 refine Dx (f68 b h n c F ok) [] [(100000,100000),(100001,100001)] [100000,100001] ?_
 refine OQ zU Bl rfl ?_
 refine qv A9 ?_
 refine AP ?_
 exact xg [(100000,100000),(100001,100001)]
theorem f51 (b:Bg) (h:Hp) (n:Int) (c:Cs) (F:Fn b h n) (ok:C8 b h n c):Aw Tryz.prog 51 [.pt 100000 0 0] (Ba (pair b h n c 0 100004)) ⟨[.dv (i64 (c.F3:Int))],Ba (pair b h n c 0 100004)⟩:=by
 refine DC Tryz.func51 rfl rfl (by rw [Tryz.ntmps51];simp) fun cx hP hn hg=>?_
 rw [Tryz.ntmps51] at hn
 refine Bj ?_
 refine sg ?_
 refine qv A9 ?_
 refine sg ?_
 refine qv A8 ?_
 refine Dx (f68 b h n c F ok) [] [(100000,100000),(100001,100001)] [100000,100001] ?_
 refine OQ zT Br rfl ?_
 refine qv A9 ?_
 refine AP ?_
 exact xg [(100000,100000),(100001,100001)]
theorem f52 (b:Bg) (h:Hp) (n:Int) (c:Cs) (F:Fn b h n) (ok:C8 b h n c):Aw Tryz.prog 52 [.pt 100000 0 0] (Ba (pair b h n c 0 100004)) ⟨[.dv (i64 c.Ei)],Ba (pair b h n c 0 100004)⟩:=by
 refine DC Tryz.func52 rfl rfl (by rw [Tryz.ntmps52];simp) fun cx hP hn hg=>?_
 rw [Tryz.ntmps52] at hn
 refine Bj ?_
 refine sg ?_
 refine qv A9 ?_
 refine sg ?_
 refine qv A8 ?_
 refine Dx (f68 b h n c F ok) [] [(100000,100000),(100001,100001)] [100000,100001] ?_
 refine OQ zS Br rfl ?_
 refine qv A9 ?_
 refine AP ?_
 exact xg [(100000,100000),(100001,100001)]
theorem f53 (b:Bg) (h:Hp) (n:Int) (c:Cs) (F:Fn b h n) (ok:C8 b h n c):Aw Tryz.prog 53 [.pt 100000 0 0] (Ba (pair b h n c 0 100004)) ⟨[.dv (i64 c.cut)],Ba (pair b h n c 0 100004)⟩:=by
 refine DC Tryz.func53 rfl rfl (by rw [Tryz.ntmps53];simp) fun cx hP hn hg=>?_
 rw [Tryz.ntmps53] at hn
 refine Bj ?_
 refine sg ?_
 refine qv A9 ?_
 refine sg ?_
 refine qv A8 ?_
 refine Dx (f68 b h n c F ok) [] [(100000,100000),(100001,100001)] [100000,100001] ?_
 refine OQ zR Br rfl ?_
 refine qv A9 ?_
 refine AP ?_
 exact xg [(100000,100000),(100001,100001)]
theorem f54 (b:Bg) (h:Hp) (n:Int) (c:Cs) (F:Fn b h n) (ok:C8 b h n c):Aw Tryz.prog 54 [.pt 100000 0 0] (Ba (pair b h n c 0 100004)) ⟨[.dv (i64 c.loaded)],Ba (pair b h n c 0 100004)⟩:=by
 refine DC Tryz.func54 rfl rfl (by rw [Tryz.ntmps54];simp) fun cx hP hn hg=>?_
 rw [Tryz.ntmps54] at hn
 refine Bj ?_
 refine sg ?_
 refine qv A9 ?_
 refine sg ?_
 refine qv A8 ?_
 refine Dx (f68 b h n c F ok) [] [(100000,100000),(100001,100001)] [100000,100001] ?_
 refine OQ zQ Br rfl ?_
 refine qv A9 ?_
 refine AP ?_
 exact xg [(100000,100000),(100001,100001)]
theorem f56 (b:Bg) (h:Hp) (n:Int) (c:Cs) (F:Fn b h n) (ok:C8 b h n c):Aw Tryz.prog 56 [.pt 100000 0 0] (Ba (pair b h n c 0 100004)) ⟨[.dv (.bool c.shut)],Ba (pair b h n c 0 100004)⟩:=by
 refine DC Tryz.func56 rfl rfl (by rw [Tryz.ntmps56];simp) fun cx hP hn hg=>?_
 rw [Tryz.ntmps56] at hn
 refine Bj ?_
 refine sg ?_
 refine qv A9 ?_
 refine sg ?_
 refine qv A8 ?_
 refine Dx (f68 b h n c F ok) [] [(100000,100000),(100001,100001)] [100000,100001] ?_
 refine OQ zP YG rfl ?_
 refine qv A9 ?_
 refine AP ?_
 exact xg [(100000,100000),(100001,100001)]
theorem f34 (b:Bg) (h:Hp) (n:Int) (c:Cs) (F:Fn b h n) (ok:C8 b h n c):Aw Tryz.prog 34 [.pt 100000 0 0] (Ba (pair b h n c 0 100004)) ⟨[.dv (CY (Co 0 c.orders))],Ba (pair b h n c 0 100004)⟩:=by
 refine DC Tryz.func34 rfl rfl (by rw [Tryz.ntmps34];simp) fun cx hP hn hg=>?_
 rw [Tryz.ntmps34] at hn
 refine Bj ?_
 refine sg ?_
 refine qv A9 ?_
 refine sg ?_
 refine qv A8 ?_
 refine Dx (f68 b h n c F ok) [] [(100000,100000),(100001,100001)] [100000,100001] ?_
 refine OQ zO Hl rfl ?_
 refine Bo (f81 c.orders (Xb ok)) ?_
 refine qv A9 ?_
 refine AP ?_
 exact xg [(100000,100000),(100001,100001)]
theorem f89 (c:Cs) (h1:-1000 <= c.cut /\ c.cut <= 1000) (h2:-1000 <= c.loaded /\ c.loaded <= 1000) (ht:c.AX.length <= 1000) (hb:∀ i,i < c.AX.length -> 0 <= Az c.AX i /\ Az c.AX i <= 1000):AR Tryz.prog 89 [dSt c] (.one (.dv (i64 (Qt c)))):=by
 have hs:∀ k,k <= c.AX.length -> 0 <= sm (Az c.AX) k /\ sm (Az c.AX) k <= 1000 * k:=fun k=>by
  induction k with
  | zero=>intro _;simp [sm]
  | succ k ih =>
   intro hk
   have h3:=ih (by omega)
   have h4:=hb k (by omega)
   simp only [sm]
   push_cast
   omega
 refine Bu Tryz.func89 rfl rfl (by rw [Tryz.ntmps89];simp) fun cx hP hn hg=>?_
 rw [Tryz.ntmps89] at hn
 rw [Bq,Bp]
 simp only [List.nil_append,List.append_nil,List.cons_append,BF,Nat.reduceAdd]
 refine sg ?_
 refine qp BX ?_
 refine qv A9 ?_
 refine sg ?_
 refine qv (AB Lu) ?_
 refine qv (AL Ak Br) ?_
 refine qv (AB QG) ?_
 refine qv (AL Ak Br) ?_
 refine qv FW ?_
 refine qv A9 ?_
 refine AJ ?_
 refine sg ?_
 refine qv (AB GJ) ?_
 refine qv (AL Av Bl) ?_
 refine qv (BH CZ) ?_
 refine qv A8 ?_
 refine BD ?_
 refine Ag (ι:=Nat) (fun i=>⟨lk [(3,.dv (i64 (c.cut - c.loaded - sm (Az c.AX) i))),(12,.dv (ints (c.AX))),(13,.dv (i64 ((c.AX.length:Int)))),(14,.dv (i64 (i:Nat)))],AA []⟩) (fun i=>i <= c.AX.length) (fun i=>c.AX.length - i) 0 (by simp) (tl [] (hF:=by simp [Ck,Aa,lk,AA,isLive,Ac,sm]) (hM:=by simp [CV,Al,Aa,Ae,lk,AA,isLive,Ac,BK,BJ,Af,BI,BL,BO,BM,BN,sm])) ?_
 intro i Aj
 refine sg ?_
 refine qv BQ ?_
 refine AJ ?_
 refine cd (fun hc0=>?_) (fun hc0=>?_)
 ·try simp at hc0
  refine AY ?_
  refine AJ ?_
  refine BD ?_
  refine sg ?_
  have hi:i < c.AX.length:=by omega
  have hgi:=Ah hi
  have hbi:=hb i hi
  have hsi:=hs i (by omega)
  have hsn:c.cut - c.loaded - sm (Az c.AX) (i+1)=c.cut - c.loaded - sm (Az c.AX) i - Az c.AX i:=by simp only [sm];omega
  first | refine qv (BA Ap Ak) ?_ | refine qv (Bd Ap Ak) ?_
  refine qv (Bb Ak Br) ?_
  refine qv A9 ?_
  refine rg ?_
  iterate 2 refine qv A8 ?_
  refine qv FW ?_
  refine qv A9 ?_
  refine rg ?_
  refine qv Am ?_
  refine qv A8 ?_
  exact ⟨i+1,hi,(by simp only;omega),(tl [] (hF:=by simp [Ck,Aa,lk,AA,isLive,Ac,hsn]) (hM:=by simp [CV,Al,Aa,Ae,lk,AA,isLive,Ac,BK,BJ,Af,BI,BL,BO,BM,BN,hsn]))⟩
 ·try simp at hc0
  refine Ad ?_
  refine sg ?_
  refine qv A8 ?_
  refine qv A9 ?_
  refine AP ?_
  obtain rfl:i=c.AX.length:=by omega
  exact x1 (hr:=(CW (by unfold Qt;rfl)))
theorem f55 (b:Bg) (h:Hp) (n:Int) (c:Cs) (F:Fn b h n) (ok:C8 b h n c):Aw Tryz.prog 55 [.pt 100000 0 0] (Ba (pair b h n c 0 100004)) ⟨[.dv (i64 (Qt c))],Ba (pair b h n c 0 100004)⟩:=by
 have hcu:=ok.kF
 have hl0:=ok.tK
 have hlb:=ok.ldb
 have htl:=ok.Mj
 have h5:=F.vh.n5
 have htb:∀ j,j < c.AX.length -> 0 <= Az c.AX j /\ Az c.AX j <= 1000:=fun j hj=>by have:=(ok.t30 F.vh).bd j (by omega);omega
 refine DC Tryz.func55 rfl rfl (by rw [Tryz.ntmps55];simp) fun cx hP hn hg=>?_
 rw [Tryz.ntmps55] at hn
 refine Bj ?_
 refine sg ?_
 refine qv A9 ?_
 refine sg ?_
 refine qv A8 ?_
 refine Dx (f68 b h n c F ok) [] [(100000,100000),(100001,100001)] [100000,100001] ?_
 refine Bo (f89 c (by omega) (by omega) (by omega) htb) ?_
 refine qv A9 ?_
 refine AP ?_
 exact xg [(100000,100000),(100001,100001)]
end Go.Ab.Tryz
