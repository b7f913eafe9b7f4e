/- BogQ1, BogQ2, BogQ3, BogPa. -/
import Derived.Test.YtjcecljhjailiaaGreatDoorBogG23
import Derived.Test.YtjcecljhjailiaaGreatDoorBogG23
import Derived.Test.YtjcecljhjailiaaGreatDoorBogG23
import Derived.Test.YtjcecljhjailiaaGreatDoorBogG22
import Derived.Test.YtjcecljhjailiaaGreatDoorBogG07
import Derived.Test.YtjcecljhjailiaaGreatDoorBogG12
import Derived.Maps.OwnSet
set_option linter.all false
namespace Go.Ab.Tryz
open Go Go.Ab Go.Proofs Go.Ab.Ci Go.Ab.Gx
open Go.Ab.Heap (Az Ah BZ)
open Go.Ab.Heap (Hp Et validate sm)
abbrev stC (c:Cs) (q:Nat):List SV:=[.dv (i64 c.day),.dv (ints c.AU),.dv (ints c.AX),.dv (i64 (c.F3:Int)),.dv (i64 c.Ei),.dv (i64 c.cut),.dv (i64 c.loaded),.dv (.bool c.shut),.sl q 0 0 c.orders.length]
abbrev eF (c:Cs) (q st:Nat):BG:=⟨stC c q,0,98,st,false⟩
abbrev coC (b:Bg) (h:Hp) (n:Int) (c:Cs) (s:Int) (q:Nat):List SV:=[.dv (.int .i32 s),.dv (.int .u32 0),.dv (.list (b.worth.map ints)),.dv (.list (h.links.map ints)),.dv (ints h.ground),.dv (i64 (b.dep:Int)),.dv (i64 (b.worth.length:Int)),.dv (i64 n),
 .dv (i64 c.day),.dv (ints c.AU),.dv (ints c.AX),.dv (i64 (c.F3:Int)),.dv (i64 c.Ei),.dv (i64 c.cut),.dv (i64 c.loaded),.dv (.bool c.shut),.sl q 0 0 c.orders.length]
abbrev ZY (b:Bg) (h:Hp) (n:Int) (c:Cs) (s:Int) (q st:Nat):BG:=⟨coC b h n c s q,0,100,st,false⟩
abbrev Cy (L:List Tx) (st:Nat):BG:=⟨L.map fun T=>.dv (CY T),1,9,st,true⟩
abbrev three (b:Bg) (h:Hp) (n:Int) (c d:Cs) (s:Int):List (Nat × BG):=[(100000,eF d 100002 100003),(100001,ZY b h n c s 100002 100004),(100002,Cy c.orders 100005)]
theorem Lx:Ic 0=.nilIface:=rfl
theorem Gs {e:Int} (h:e ≠ 0):Ic e=.iface 133 (.agg [.int .i64 e]):=by unfold Ic;rw [if_neg h]
def fB (e:Int) (x c:Cs):Cs:=if e=0 then x else c
theorem Jz {x c:Cs}:fB 0 x c=x:=rfl
theorem Ew {e:Int} {x c:Cs} (h:e ≠ 0):fB e x c=c:=by unfold fB;rw [if_neg h]
theorem fP {c:Cs} {i m:Nat} (h:c.AX.length <= i):EW c i m=4:=by unfold EW;rw [if_pos h]
theorem fQ {c:Cs} {i m:Nat} (h:¬ c.AX.length <= i) (hm:m=0):EW c i m=1:=by unfold EW;rw [if_neg h,if_pos hm]
theorem Z7 {c:Cs} {i m:Nat} (h:¬ c.AX.length <= i) (hm:¬ m=0) (hl:Az c.AX i < m):EW c i m=11:=by unfold EW;rw [if_neg h,if_neg hm,if_pos hl]
theorem fO {c:Cs} {i m:Nat} (h:¬ c.AX.length <= i) (hm:¬ m=0) (hl:¬ Az c.AX i < m):EW c i m=0:=by unfold EW;rw [if_neg h,if_neg hm,if_neg hl]
set_option maxHeartbeats 1000000 in
theorem f153 (b:Bg) (h:Hp) (n:Int) (c:Cs) (s:Int) (i m:Nat) (F:Fn b h n) (ok:C8 b h n c) (hi:i < 1000) (hm:m < 1000):Aw Tryz.prog 153 [.pt 100001 0 0,.pt 100000 0 0,.dv (i64 (i:Int)),.dv (i64 (m:Int))] (Ba (three b h n c c s)) ⟨[.dv (Ic (EW c i m))],Ba (three b h n c (fB (EW c i m) (I6 c i m) c) s)⟩:=by
 have hld:=ok.ldb
 have hl0:=ok.tK
 have hmo:=ok.jK
 have htl:=ok.Mj
 have h5:=F.vh.n5
 have htb:∀ j,j < c.AX.length -> 0 <= Az c.AX j /\ Az c.AX j <= 30:=fun j hj=>(ok.t30 F.vh).bd j (by omega)
 refine DC Tryz.func153 rfl rfl (by rw [Tryz.ntmps153];simp) fun cx hP hn hg=>?_
 rw [Tryz.ntmps153] at hn
 refine Bj ?_
 refine sg ?_
 refine qv A9 ?_
 refine AJ ?_
 refine BD ?_
 refine sg ?_
 iterate 2 refine qv A8 ?_
 refine qv BR ?_
 refine qv (AB GJ) ?_
 refine qv (AL Av Bl) ?_
 refine qv (BH CZ) ?_
 refine qv Df ?_
 refine qv A9 ?_
 refine cd (fun hc0=>?_) (fun hc0=>?_)
 ·try simp at hc0
  refine sg ?_
  refine qv (DJ JU JL) ?_
  refine JR ⟨_,Tryz.underlying133,by intro ms;nofun⟩ ?_
  refine qv A9 ?_
  refine AP ?_
  rw [show EW c i m=_ from fP (by omega)]
  rw [Gs (by decide),Ew (by decide)]
  exact xg [(100000,100000),(100001,100001),(100002,100002)]
 ·try simp at hc0
  refine sg ?_
  refine qv A8 ?_
  refine qv Bv ?_
  refine qv A9 ?_
  refine cd (fun hc1=>?_) (fun hc1=>?_)
  ·try simp at hc1
   refine sg ?_
   refine qv (DJ JU JL) ?_
   refine JR ⟨_,Tryz.underlying133,by intro ms;nofun⟩ ?_
   refine qv A9 ?_
   refine AP ?_
   rw [show EW c i m=_ from fQ (by omega) (by omega)]
   rw [Gs (by decide),Ew (by decide)]
   exact xg [(100000,100000),(100001,100001),(100002,100002)]
  ·try simp at hc1
   refine sg ?_
   refine qv A8 ?_
   refine qv BR ?_
   refine qv (AB GJ) ?_
   refine qv (AL Av Bl) ?_
   have hit:i < c.AX.length:=by omega
   have hgt:=Ah hit
   have hgb:=htb i hit
   refine qv A8 ?_
   first | refine qv (BA Ap Ak) ?_ | refine qv (Bd Ap Ak) ?_
   refine qv (Bb Ak Br) ?_
   refine qv A8 ?_
   refine qv BQ ?_
   refine qv A9 ?_
   refine cd (fun hc2=>?_) (fun hc2=>?_)
   ·try simp at hc2
    refine sg ?_
    refine qv (DJ JU JL) ?_
    refine JR ⟨_,Tryz.underlying133,by intro ms;nofun⟩ ?_
    refine qv A9 ?_
    refine AP ?_
    rw [show EW c i m=_ from Z7 (by omega) (by omega) (by omega)]
    rw [Gs (by decide),Ew (by decide)]
    exact xg [(100000,100000),(100001,100001),(100002,100002)]
   ·try simp at hc2
    refine AY ?_
    refine sg ?_
    iterate 2 refine qv A8 ?_
    refine qv BR ?_
    refine qv (AB GJ) ?_
    refine qv (AL Av Bl) ?_
    refine Bo (f97 c.AX (by omega)) ?_
    refine qv BR ?_
    refine qv (AB GJ) ?_
    refine qs (CK Av) ?_
    refine sg ?_
    refine qv A8 ?_
    refine qv BR ?_
    refine qv (AB GJ) ?_
    refine qv (AL Av Bl) ?_
    refine qv A8 ?_
    refine qv (CB Ap Ak) ?_
    first | refine qv (EG Ak Br) ?_ | refine qv (AL Ak Br) ?_
    refine qv A8 ?_
    refine qv FW ?_
    refine qv (CB Ap Ak) ?_
    first | refine qs (Gp Ak) ?_ | refine qs (CK Ak) ?_
    refine sg ?_
    refine qv A8 ?_
    refine qv BR ?_
    refine qv (AB QG) ?_
    refine qv (AL Ak Br) ?_
    refine qv A8 ?_
    refine qv Am ?_
    refine qv BR ?_
    refine qv (AB QG) ?_
    refine qs (CK Ak) ?_
    refine sg ?_
    refine qv A8 ?_
    refine qv BR ?_
    refine qv (AB Ki) ?_
    refine qv (AL Ak Br) ?_
    refine qv A8 ?_
    refine qv Am ?_
    refine qv BR ?_
    refine qv (AB Ki) ?_
    refine qs (CK Ak) ?_
    refine sg ?_
    refine qv A9 ?_
    refine G9 41 ?_
    refine AP ?_
    rw [show EW c i m=0 from fO (by omega) (by omega) (by omega)]
    rw [Lx,Jz]
    exact xg [(100000,100000),(100001,100001),(100002,100002)] (h2:=by
     simp [CV,Al,Ae,Aa,isLive,Ac,Ba,AA,Ch,BK,BJ,CR,Af,BI,BL,BO,BM,BN,Dv,I6]
     exact BS (L:=c.AX.set i (Az c.AX i - m)) rfl rfl (by simp) rfl (by simp) (fun _=>trivial))
end Go.Ab.Tryz
namespace Go.Ab.Tryz
open Go Go.Ab Go.Proofs Go.Ab.Ci Go.Ab.Gx
open Go.Ab.Heap (Az Ah BZ)
open Go.Ab.Heap (Hp Et validate sm)
theorem XE {b:Bg} {c:Cs} {r k:Nat} (h:b.dep <= r \/ b.worth.length <= k):GH b c r k=4:=by unfold GH;rw [if_pos h]
theorem nX {b:Bg} {c:Cs} {r k:Nat} (h:¬ (b.dep <= r \/ b.worth.length <= k)) (h2:Az c.AU k <= r):GH b c r k=8:=by unfold GH;rw [if_neg h,if_pos h2]
theorem nY {b:Bg} {c:Cs} {r k:Nat} (h:¬ (b.dep <= r \/ b.worth.length <= k)) (h2:¬ Az c.AU k <= r) (h3:c.F3.testBit (r * b.worth.length+k)=true):GH b c r k=5:=by unfold GH;rw [if_neg h,if_neg h2,if_pos h3]
theorem nW {b:Bg} {c:Cs} {r k:Nat} (h:¬ (b.dep <= r \/ b.worth.length <= k)) (h2:¬ Az c.AU k <= r) (h3:c.F3.testBit (r * b.worth.length+k)=false):GH b c r k=0:=by unfold GH;rw [if_neg h,if_neg h2,h3];rfl
theorem iM {w k:Nat}:w &&& 2 ^ k=if w.testBit k then 2 ^ k else 0:=by
 apply Nat.eq_of_testBit_eq
 intro i
 rw [Nat.testBit_and,Nat.testBit_two_pow]
 by_cases h:k=i
 ·subst h
  cases hw:w.testBit k<;>simp [hw]
 ·split<;>simp [h,Nat.testBit_two_pow]
theorem Uf {w k:Nat}:((w &&& 2 ^ k:Nat):Int) ≠ 0 ↔ w.testBit k=true:=by
 rw [iM]
 have h2:=Nat.two_pow_pos k
 cases hw:w.testBit k with
 | false=>simp
 | true =>
  simp only [if_true]
  refine ⟨fun _=>trivial,fun _=>?_⟩
  generalize 2 ^ k=z at h2
  omega
theorem A0E {b:Bg} {h:Hp} {n:Int} {c:Cs} {s:Int} {q:Nat}:coC b h n c s q=(vX b h n c s).map .dv ++ [.sl q 0 0 c.orders.length]:=rfl
theorem Ou {M:Nat -> Nat × Option BG} {b:Bg} {h:Hp} {n:Int} {c:Cs} {s:Int} {q st t g:Nat} (hM:M t=(g,some (ZY b h n c s q st))):GQ M (.pt t g 0) (.DU (vX b h n c s)):=by
 refine .pt t g 0 _ _ (fun j=>.dv ((vX b h n c s).getD j default)) hM trivial (fun j c' hj=>?_) fun j c' hj=>?_
 ·have hl:=(List.getElem?_eq_some_iff.1 hj).1
  have e:(vX b h n c s).getD j default=c':=by simp [hj]
  rw [e]
  show (coC b h n c s q)[0+j]?=_
  rw [A0E,Nat.zero_add,List.getElem?_append_left (by simpa using hl),List.getElem?_map,hj]
  rfl
 ·have:(vX b h n c s).getD j default=c':=by simp [hj]
  rw [this]
  exact .dv c' trivial
set_option maxHeartbeats 1000000 in
theorem f154 (b:Bg) (h:Hp) (n:Int) (c:Cs) (s:Int) (r k:Nat) (F:Fn b h n) (ok:C8 b h n c) (hr:r < 1000) (hk:k < 1000):Aw Tryz.prog 154 [.pt 100001 0 0,.pt 100000 0 0,.dv (i64 (r:Int)),.dv (i64 (k:Int))] (Ba (three b h n c c s)) ⟨[.dv (Ic (GH b c r k))],Ba (three b h n c (fB (GH b c r k) (NQ b c r k) c) s)⟩:=by
 have hwf:=ok.F3 n
 have ZG:=MU F.mn
 have uM:=ok.hol.len
 have hbd:=ok.hol.bd
 have Uz:=F.bg.n6
 have hd4:=F.bg.d4
 refine DC Tryz.func154 rfl rfl (by rw [Tryz.ntmps154];simp) fun cx hP hn hg=>?_
 rw [Tryz.ntmps154] at hn
 refine Bj ?_
 refine sg ?_
 refine qv A9 ?_
 refine AJ ?_
 refine sg ?_
 iterate 2 refine qv A8 ?_
 refine qv BR ?_
 refine qv (AB Kl) ?_
 refine qv (AB GK) ?_
 refine qv (AL Ak Br) ?_
 refine qv Df ?_
 refine qx A8 (fun Ia=>?_) (fun Ia=>?_)
 ·try simp at Ia
  iterate 7 refine qk ?_
  refine qv Ai ?_
  refine Dw (hb:=by first | rfl | simp | simp_all) (ht:=?_)
  refine sg ?_
  refine qv (DJ JU JL) ?_
  refine JR ⟨_,Tryz.underlying133,by intro ms;nofun⟩ ?_
  refine qv A9 ?_
  refine AP ?_
  rw [show GH b c r k=_ from XE (by omega)]
  rw [Gs (by decide),Ew (by decide)]
  exact xg [(100000,100000),(100001,100001),(100002,100002)]
 ·try simp at Ia
  iterate 2 refine qv A8 ?_
  refine qv BR ?_
  refine qv (AB Kl) ?_
  refine qv (AB DR) ?_
  refine qv (AL Ak Br) ?_
  refine qv Df ?_
  refine qv Ai ?_
  refine cd (fun hc0=>?_) (fun hc0=>?_)
  ·try simp at hc0
   refine sg ?_
   refine qv (DJ JU JL) ?_
   refine JR ⟨_,Tryz.underlying133,by intro ms;nofun⟩ ?_
   refine qv A9 ?_
   refine AP ?_
   rw [show GH b c r k=_ from XE (by omega)]
   rw [Gs (by decide),Ew (by decide)]
   exact xg [(100000,100000),(100001,100001),(100002,100002)]
  ·try simp at hc0
   refine AY ?_
   refine AJ ?_
   refine sg ?_
   iterate 2 refine qv A8 ?_
   refine qv BR ?_
   refine qv (AB FJ) ?_
   refine qv (AL Av Bl) ?_
   have hkt:k < c.AU.length:=by omega
   have hgt:=Ah hkt
   have hgb:=hbd k hkt
   refine qv A8 ?_
   first | refine qv (BA Ap Ak) ?_ | refine qv (Bd Ap Ak) ?_
   refine qv (Bb Ak Br) ?_
   refine qv Df ?_
   refine cd (fun hc1=>?_) (fun hc1=>?_)
   ·try simp at hc1
    refine sg ?_
    refine qv (DJ JU JL) ?_
    refine JR ⟨_,Tryz.underlying133,by intro ms;nofun⟩ ?_
    refine qv A9 ?_
    refine AP ?_
    rw [show GH b c r k=_ from nX (by omega) (by omega)]
    rw [Gs (by decide),Ew (by decide)]
    exact xg [(100000,100000),(100001,100001),(100002,100002)]
   ·try simp at hc1
    refine AY ?_
    refine AJ ?_
    refine AJ ?_
    refine rd mixed ?_
    refine zv A8 ?_
    refine zv BR ?_
    refine zv (AB Jo) ?_
    refine zv (AL Ak Br) ?_
    iterate 3 refine zv A8 ?_
    refine GA (R:=[100001]) (f90 b F.bg h n c s r k (by omega) (by omega)) ?_ (ha:=(CG (Ou (by (first | (simp only [AA,reduceIte,Nat.reduceEqDiff]<;>rfl) | (simp [L8,AA]<;>rfl)))) (CG Bh (CG Bh EH))))
    refine zv (TF (ha:=by omega) (hb:=by have:=Qd F.bg (r:=r) (k:=k) (by omega) (by omega);omega)) ?_
    refine zv BP ?_
    refine ⟨by rfl,?_⟩
    refine cd (fun hc2=>?_) (fun hc2=>?_)
    ·skip
     refine sg ?_
     refine qv (DJ JU JL) ?_
     refine JR ⟨_,Tryz.underlying133,by intro ms;nofun⟩ ?_
     refine qv A9 ?_
     refine AP ?_
     rw [show GH b c r k=_ from nY (by omega) (by omega) (Uf.1 (by simpa [aU] using hc2))]
     rw [Gs (by decide),Ew (by decide)]
     exact xg [(100000,100000),(100001,100001),(100002,100002)]
    ·skip
     refine AY ?_
     refine AJ ?_
     refine rd mixed ?_
     refine zv A8 ?_
     refine zv BR ?_
     refine zv (AB Jo) ?_
     refine zv (AL Ak Br) ?_
     iterate 3 refine zv A8 ?_
     refine GA (R:=[100001]) (f90 b F.bg h n c s r k (by omega) (by omega)) ?_ (ha:=(CG (Ou (by (first | (simp only [AA,reduceIte,Nat.reduceEqDiff]<;>rfl) | (simp [L8,AA]<;>rfl)))) (CG Bh (CG Bh EH))))
     refine zv (Dc (ha:=by omega) (hb:=by have:=Qd F.bg (r:=r) (k:=k) (by omega) (by omega);omega)) ?_
     refine zv BR ?_
     refine zv (AB Jo) ?_
     refine zs (CK Ak) ?_
     refine ⟨by rfl,?_⟩
     refine sg ?_
     refine qv A9 ?_
     refine AP ?_
     rw [show GH b c r k=0 from nW (by omega) (by omega) (by cases hq:c.F3.testBit (r * b.worth.length+k) with
      | false=>rfl
      | true=>exact absurd (Uf.2 hq) (by simpa [aU] using hc2))]
     rw [Lx,Jz]
     exact xg [(100000,100000),(100001,100001),(100002,100002)] (h2:=by simp [CV,Al,Ae,Aa,isLive,Ac,Ba,AA,Ch,BK,BJ,CR,Af,BI,BL,BO,BM,BN,Dv,NQ,aU])
end Go.Ab.Tryz
namespace Go.Ab.Tryz
open Go Go.Ab Go.Proofs Go.Ab.Ci Go.Ab.Gx
open Go.Ab.Heap (Az Ah BZ)
open Go.Ab.Heap (Hp Et validate sm)
theorem qE {b:Bg} {c:Cs} {k:Nat} (h:b.worth.length <= k):Fp b c k=4:=by unfold Fp;rw [if_pos h]
theorem qD {b:Bg} {c:Cs} {k:Nat} (h:¬ b.worth.length <= k) (h2:c.shut=true):Fp b c k=8:=by unfold Fp;rw [if_neg h,if_pos h2]
theorem Xk {b:Bg} {c:Cs} {k:Nat} (h:¬ b.worth.length <= k) (h2:c.shut=false) (h3:(!Cz b c.AU k || FZ b c k)=true):Fp b c k=6:=by unfold Fp;rw [if_neg h,if_neg (by simp [h2]),if_pos h3]
theorem Xj {b:Bg} {c:Cs} {k:Nat} (h:¬ b.worth.length <= k) (h2:c.shut=false) (h3:Cz b c.AU k=true) (h4:FZ b c k=false):Fp b c k=0:=by unfold Fp;rw [if_neg h,if_neg (by simp [h2]),if_neg (by simp [h3,h4])]
theorem yP {p:Nat -> Bool} {n k:Nat}:(ns ((List.range n).filter p)).contains (k:Int)=(decide (k < n) && p k):=by
 rw [Bool.eq_iff_iff,List.contains_iff_mem,ns,List.mem_map]
 simp only [List.mem_filter,List.mem_range,Bool.and_eq_true,decide_eq_true_eq]
 constructor
 ·rintro ⟨j,⟨h1,h2⟩,h3⟩
  have:j=k:=by omega
  subst this;exact ⟨h1,h2⟩
 ·rintro ⟨h1,h2⟩
  exact ⟨k,⟨h1,h2⟩,rfl⟩
theorem Yt {b:Bg} {h:Hp} {n:Int} {c:Cs} (ok:C8 b h n c) {k:Nat} (hk:k < b.worth.length):(JX b c.AU).contains (k:Int)=Cz b c.AU k:=by
 unfold JX fC
 rw [if_pos ok.bX,yP]
 have:k < c.AU.length:=by rw [ok.hol.len];exact hk
 simp [this]
theorem Vu {b:Bg} {l:List Int} (h:l.length <= 6):(JX b l).length <= 6:=by
 unfold JX fC
 split
 ·have:=Oj (p:=Cz b l) (k:=l.length)
  rw [Py];omega
 ·simp
theorem RY {b:Bg} {l:List Int} {k:Nat} (h:Cz b l k=true):Az l k+1 <= b.dep:=by
 unfold Cz at h
 simp only [Bool.and_eq_true,decide_eq_true_eq] at h
 exact h.1
theorem Rs {b:Bg} {c:Cs} {k q:Nat} (h:Az c.AU k=((q+1:Nat):Int)):FZ b c k=c.F3.testBit (q * b.worth.length+k):=by
 unfold FZ
 rw [h,Int.toNat_natCast,decide_eq_true (by omega:(0:Int) < ((q+1:Nat):Int)),Bool.true_and,Nat.add_sub_cancel]
theorem Rt {b:Bg} {c:Cs} {k:Nat} (h:¬ 0 < Az c.AU k):FZ b c k=false:=by
 unfold FZ
 rw [decide_eq_false h];rfl
theorem gy {b:Bg} {h:Hp} {n:Int} {c:Cs} (F:Fn b h n) (ok:C8 b h n c) {k:Nat} (hk:k < b.worth.length):H.M5 h c.AX (k:Int)=(Go.Ab.Heap.LJ h (H.bump c.AX k),sm (Az (Go.Ab.Heap.Jr h (H.bump c.AX k))) h.ground.length,0) :=
 H.Ko (H.nC (ok.chk F) (by rw [F.len];exact hk))
set_option maxHeartbeats 4000000 in
set_option maxRecDepth 100000 in
theorem f152 (b:Bg) (h:Hp) (n:Int) (c:Cs) (s:Int) (k:Nat) (F:Fn b h n) (ok:C8 b h n c) (hk:k < 1000):Aw Tryz.prog 152 [.pt 100001 0 0,.pt 100000 0 0,.dv (i64 (k:Int))] (Ba (three b h n c c s)) ⟨[.dv (Ic (Fp b c k))],Ba (three b h n c (fB (Fp b c k) (Kr b h c k) c) s)⟩:=by
 have hwf:=ok.F3 n
 have ZG:=MU F.mn
 have uM:=ok.hol.len
 have hbd:=ok.hol.bd
 have Uz:=F.bg.n6
 have hd4:=F.bg.d4
 have hmo:=ok.jK
 have hcu:=ok.kF
 have hh0:=ok.bX
 have hol:=Vu (b:=b) (l:=c.AU) (by omega)
 refine DC Tryz.func152 rfl rfl (by rw [Tryz.ntmps152];simp) fun cx hP hn hg=>?_
 rw [Tryz.ntmps152] at hn
 refine Bj ?_
 refine sg ?_
 refine qv A9 ?_
 refine AJ ?_
 refine sg ?_
 iterate 2 refine qv A8 ?_
 refine qv BR ?_
 refine qv (AB FJ) ?_
 refine qv (AL Av Bl) ?_
 refine qv (BH CZ) ?_
 refine qv Df ?_
 refine cd (fun hc0=>?_) (fun hc0=>?_)
 ·try simp at hc0
  refine sg ?_
  refine qv (DJ JU JL) ?_
  refine JR ⟨_,Tryz.underlying133,by intro ms;nofun⟩ ?_
  refine qv A9 ?_
  refine AP ?_
  rw [show Fp b c k=_ from qE (by omega)]
  rw [Gs (by decide),Ew (by decide)]
  exact xg [(100000,100000),(100001,100001),(100002,100002)]
 ·try simp at hc0
  refine AY ?_
  refine AJ ?_
  refine sg ?_
  refine qv A8 ?_
  refine qv BR ?_
  refine qv (AB Ta) ?_
  refine qv (AL H8 YG) ?_
  refine cd (fun hc1=>?_) (fun hc1=>?_)
  ·try simp at hc1
   refine sg ?_
   refine qv (DJ JU JL) ?_
   refine JR ⟨_,Tryz.underlying133,by intro ms;nofun⟩ ?_
   refine qv A9 ?_
   refine AP ?_
   rw [show Fp b c k=_ from qD (by omega) (by simpa using hc1)]
   rw [Gs (by decide),Ew (by decide)]
   exact xg [(100000,100000),(100001,100001),(100002,100002)]
  ·try simp at hc1
   refine AY ?_
   refine AJ ?_
   refine rd mixed ?_
   refine zv A8 ?_
   refine zv BR ?_
   refine zv (AB Oq) ?_
   refine zv (AQ D9 DW) ?_
   refine zv A8 ?_
   refine zv BR ?_
   refine zv (AB FJ) ?_
   refine zv (AL Av Bl) ?_
   refine GA (R:=[]) (f183 b c.AU) ?_
   refine zv A8 ?_
   iterate 2 refine zv Bf ?_
   iterate 2 refine zv A9 ?_
   refine ⟨by rfl,?_⟩
   refine AJ ?_
   refine sg ?_
   refine qv A8 ?_
   refine qv BP ?_
   refine Cv (hb:=(by simp [hh0])) (ht:=?_)
   refine AY ?_
   refine sg ?_
   refine qv A8 ?_
   refine qv BR ?_
   refine qv (AB FJ) ?_
   refine qv (AL Av Bl) ?_
   have hkt:k < c.AU.length:=by omega
   have hgt:=Ah hkt
   have hgb:=hbd k hkt
   obtain ⟨r,hr⟩:∃ r:Nat,Az c.AU k=r:=⟨(Az c.AU k).toNat,by omega⟩
   have hcon:=Yt ok (k:=k) (by omega)
   have hdr:=gy F ok (k:=k) (by omega)
   have hbl:=H.O8 (h:=h) (a:=H.bump c.AX k)
   rw [hr] at hgt hgb
   refine qv A8 ?_
   first | refine qv (BA Ap Ak) ?_ | refine qv (Bd Ap Ak) ?_
   refine qv (Bb Ak Br) ?_
   refine qv A9 ?_
   refine AJ ?_
   refine AJ ?_
   refine rd mixed ?_
   iterate 2 refine zv A8 ?_
   refine GA (R:=[36]) (f184 (JX b c.AU) (k:Int) (by omega)) ?_ (ha:=(CG (BS (L:=JX b c.AU) (by (first | (simp only [AA,reduceIte,Nat.reduceEqDiff]<;>rfl) | (simp [L8,AA]<;>rfl))) trivial rfl rfl rfl (fun _=>trivial)) (CG Bh EH)))
   refine zv Bn ?_
   refine zx A8 (fun XT=>?_) (fun XT=>?_)
   ·try simp at XT
    iterate 15 refine zk ?_
    refine zv Ai ?_
    refine ⟨by rfl,?_⟩
    refine Dw (hb:=by first | rfl | simp | simp_all) (ht:=?_)
    refine sg ?_
    refine qv (DJ JU JL) ?_
    refine JR ⟨_,Tryz.underlying133,by intro ms;nofun⟩ ?_
    refine qv A9 ?_
    refine AP ?_
    rw [show Fp b c k=_ from Xk (by omega) (by simpa using hc1) (by
     first
     | (rw [hab,Bool.or_true];done)
     | (rw [show Cz b c.AU k=false by rw [<- hcon];simpa using XT];rfl))]
    rw [Gs (by decide),Ew (by decide)]
    exact xg [(100000,100000),(100001,100001),(100002,100002)]
   ·try simp at XT
    have hop:Cz b c.AU k=true:=by rw [<- hcon];simpa using XT
    refine zv A8 ?_
    refine zv Dj ?_
    refine zx A8 (fun NU=>?_) (fun NU=>?_)
    ·try simp at NU
     refine zv A8 ?_
     refine zv BR ?_
     refine zv (AB Jo) ?_
     refine zv (AL Ak Br) ?_
     iterate 2 refine zv A8 ?_
     refine zv FW ?_
     refine zv A8 ?_
     obtain ⟨q,hq⟩:∃ q,r=q+1:=⟨r - 1,by omega⟩
     rw [show ((r:Int) - 1)=((q:Nat):Int) by omega]
     have hsq:=Qd F.bg (r:=q) (k:=k) (by omega) (by omega)
     refine GA (R:=[100001]) (f90 b F.bg h n c s q k (by omega) (by omega)) ?_ (ha:=(CG (Ou (by (first | (simp only [AA,reduceIte,Nat.reduceEqDiff]<;>rfl) | (simp [L8,AA]<;>rfl)))) (CG Bh (CG Bh EH))))
     refine zv (TF (ha:=by omega) (hb:=by omega)) ?_
     refine zv BP ?_
     iterate 2 refine zv Ai ?_
     refine ⟨by rfl,?_⟩
     refine cd (fun hc3=>?_) (fun hc3=>?_)
     ·skip
      have hab:FZ b c k=true:=by rw [Rs (q:=q) (by rw [hr,hq])];exact Uf.1 (by simpa [aU] using hc3)
      refine sg ?_
      refine qv (DJ JU JL) ?_
      refine JR ⟨_,Tryz.underlying133,by intro ms;nofun⟩ ?_
      refine qv A9 ?_
      refine AP ?_
      rw [show Fp b c k=_ from Xk (by omega) (by simpa using hc1) (by
       first
       | (rw [hab,Bool.or_true];done)
       | (rw [show Cz b c.AU k=false by rw [<- hcon];simpa using XT];rfl))]
      rw [Gs (by decide),Ew (by decide)]
      exact xg [(100000,100000),(100001,100001),(100002,100002)]
     ·skip
      have hna:FZ b c k=false:=by
       rw [Rs (q:=q) (by rw [hr,hq])]
       cases hw:c.F3.testBit (q * b.worth.length+k) with
       | false=>rfl
       | true=>exact absurd (Uf.2 hw) (by simpa [aU] using hc3)
      refine AY ?_
      refine AJ ?_
      refine rd mixed ?_
      have hna:FZ b c k=false:=by first | assumption | exact Rt (by rw [hr];omega)
      refine zv A8 ?_
      refine zv BR ?_
      refine zv (AB Rj) ?_
      refine zv (AQ Cq Cr) ?_
      refine zv A8 ?_
      refine zv BR ?_
      refine zv (AB GJ) ?_
      refine zv (AL Av Bl) ?_
      refine zv A8 ?_
      refine GA (R:=[]) (H.f185 h c.AX (k:Int)) ?_
      refine zv A8 ?_
      iterate 3 refine zv Bf ?_
      iterate 3 refine zv A9 ?_
      refine ⟨by rfl,?_⟩
      refine AJ ?_
      refine sg ?_
      refine qv A8 ?_
      refine qv BP ?_
      refine Cv (hb:=(by simp [hdr])) (ht:=?_)
      refine AY ?_
      refine sg ?_
      iterate 2 refine qv A8 ?_
      refine qv BR ?_
      refine qv (AB FJ) ?_
      refine qv (AL Av Bl) ?_
      refine Bo (f97 c.AU (by omega)) ?_
      refine qv BR ?_
      refine qv (AB FJ) ?_
      refine qs (CK Av) ?_
      refine sg ?_
      refine qv A8 ?_
      refine qv BR ?_
      refine qv (AB FJ) ?_
      refine qv (AL Av Bl) ?_
      refine qv A8 ?_
      refine qv (CB Ap Ak) ?_
      first | refine qv (EG Ak Br) ?_ | refine qv (AL Ak Br) ?_
      refine qv Am ?_
      refine qv (CB Ap Ak) ?_
      first | refine qs (Gp Ak) ?_ | refine qs (CK Ak) ?_
      refine sg ?_
      iterate 2 refine qv A8 ?_
      refine qv BR ?_
      refine qv (AB GJ) ?_
      refine qs (CK Av) ?_
      refine AJ ?_
      refine rd mixed ?_
      refine zv A8 ?_
      refine zv BR ?_
      refine zv (AB Ki) ?_
      refine zv (AL Ak Br) ?_
      refine zv A8 ?_
      refine zv BR ?_
      refine zv (AB Oq) ?_
      refine zv (AB Cb) ?_
      refine zv (AL DF Da) ?_
      have hcl:=F.bg.len k (by omega)
      have hrd:r < b.dep:=by have:=RY hop;omega
      have hgc:=Ef (b:=b) (i:=k) (by omega)
      have hge:=Ah (a:=b.col k) (i:=r) (by omega)
      have hcb:=MW F.bg (i:=k) (j:=r) (by omega) hrd
      refine zv A8 ?_
      first | refine zv (BA CO Av) ?_ | refine zv (Bd CO Av) ?_
      refine zv (Bb Av Bl) ?_
      refine zv A8 ?_
      first | refine zv (BA Ap Ak) ?_ | refine zv (Bd Ap Ak) ?_
      refine zv (Bb Ak Br) ?_
      refine zv Am ?_
      refine zv BR ?_
      refine zv (AB Ki) ?_
      refine zs (CK Ak) ?_
      refine ⟨by rfl,?_⟩
      refine sg ?_
      refine qv A8 ?_
      refine qv BR ?_
      refine qv (AB Lu) ?_
      refine qv (AL Ak Br) ?_
      refine qv Am ?_
      refine qv BR ?_
      refine qv (AB Lu) ?_
      refine qs (CK Ak) ?_
      refine sg ?_
      refine qv A9 ?_
      refine G9 98 ?_
      refine G9 84 ?_
      refine AP ?_
      rw [show Fp b c k=0 from Xj (by omega) (by simpa using hc1) hop hna]
      rw [Lx,Jz]
      exact xg [(100000,100000),(100001,100001),(100002,100002)] (h2:=by
       simp [CV,Al,Ae,Aa,isLive,Ac,Ba,AA,Ch,BK,BJ,CR,Af,BI,BL,BO,BM,BN,Dv,Kr,hr]
       exact ⟨BS (L:=KC c.AU k) rfl rfl (by first | rfl | (simp;done) | (simp [hdr];done) | (simp [KC,hr,hdr];done)) rfl (by first | rfl | (simp;done) | (simp [hdr];done) | (simp [KC,hr,hdr];done)) (fun _=>trivial),BS (L:=Go.Ab.Heap.LJ h (H.bump c.AX k)) rfl rfl (by first | rfl | (simp;done) | (simp [hdr];done) | (simp [KC,hr,hdr];done)) rfl (by first | rfl | (simp;done) | (simp [hdr];done) | (simp [KC,hr,hdr];done)) (fun _=>trivial)⟩)
    ·try simp at NU
     iterate 11 refine zk ?_
     iterate 2 refine zv Ai ?_
     refine ⟨by rfl,?_⟩
     refine Cv (hb:=by first | rfl | simp | simp_all) (ht:=?_)
     refine AY ?_
     refine AJ ?_
     refine rd mixed ?_
     have hna:FZ b c k=false:=by first | assumption | exact Rt (by rw [hr];omega)
     refine zv A8 ?_
     refine zv BR ?_
     refine zv (AB Rj) ?_
     refine zv (AQ Cq Cr) ?_
     refine zv A8 ?_
     refine zv BR ?_
     refine zv (AB GJ) ?_
     refine zv (AL Av Bl) ?_
     refine zv A8 ?_
     refine GA (R:=[]) (H.f185 h c.AX (k:Int)) ?_
     refine zv A8 ?_
     iterate 3 refine zv Bf ?_
     iterate 3 refine zv A9 ?_
     refine ⟨by rfl,?_⟩
     refine AJ ?_
     refine sg ?_
     refine qv A8 ?_
     refine qv BP ?_
     refine Cv (hb:=(by simp [hdr])) (ht:=?_)
     refine AY ?_
     refine sg ?_
     iterate 2 refine qv A8 ?_
     refine qv BR ?_
     refine qv (AB FJ) ?_
     refine qv (AL Av Bl) ?_
     refine Bo (f97 c.AU (by omega)) ?_
     refine qv BR ?_
     refine qv (AB FJ) ?_
     refine qs (CK Av) ?_
     refine sg ?_
     refine qv A8 ?_
     refine qv BR ?_
     refine qv (AB FJ) ?_
     refine qv (AL Av Bl) ?_
     refine qv A8 ?_
     refine qv (CB Ap Ak) ?_
     first | refine qv (EG Ak Br) ?_ | refine qv (AL Ak Br) ?_
     refine qv Am ?_
     refine qv (CB Ap Ak) ?_
     first | refine qs (Gp Ak) ?_ | refine qs (CK Ak) ?_
     refine sg ?_
     iterate 2 refine qv A8 ?_
     refine qv BR ?_
     refine qv (AB GJ) ?_
     refine qs (CK Av) ?_
     refine AJ ?_
     refine rd mixed ?_
     refine zv A8 ?_
     refine zv BR ?_
     refine zv (AB Ki) ?_
     refine zv (AL Ak Br) ?_
     refine zv A8 ?_
     refine zv BR ?_
     refine zv (AB Oq) ?_
     refine zv (AB Cb) ?_
     refine zv (AL DF Da) ?_
     have hcl:=F.bg.len k (by omega)
     have hrd:r < b.dep:=by have:=RY hop;omega
     have hgc:=Ef (b:=b) (i:=k) (by omega)
     have hge:=Ah (a:=b.col k) (i:=r) (by omega)
     have hcb:=MW F.bg (i:=k) (j:=r) (by omega) hrd
     refine zv A8 ?_
     first | refine zv (BA CO Av) ?_ | refine zv (Bd CO Av) ?_
     refine zv (Bb Av Bl) ?_
     refine zv A8 ?_
     first | refine zv (BA Ap Ak) ?_ | refine zv (Bd Ap Ak) ?_
     refine zv (Bb Ak Br) ?_
     refine zv Am ?_
     refine zv BR ?_
     refine zv (AB Ki) ?_
     refine zs (CK Ak) ?_
     refine ⟨by rfl,?_⟩
     refine sg ?_
     refine qv A8 ?_
     refine qv BR ?_
     refine qv (AB Lu) ?_
     refine qv (AL Ak Br) ?_
     refine qv Am ?_
     refine qv BR ?_
     refine qv (AB Lu) ?_
     refine qs (CK Ak) ?_
     refine sg ?_
     refine qv A9 ?_
     refine G9 98 ?_
     refine G9 84 ?_
     refine AP ?_
     rw [show Fp b c k=0 from Xj (by omega) (by simpa using hc1) hop hna]
     rw [Lx,Jz]
     exact xg [(100000,100000),(100001,100001),(100002,100002)] (h2:=by
      simp [CV,Al,Ae,Aa,isLive,Ac,Ba,AA,Ch,BK,BJ,CR,Af,BI,BL,BO,BM,BN,Dv,Kr,hr]
      exact ⟨BS (L:=KC c.AU k) rfl rfl (by first | rfl | (simp;done) | (simp [hdr];done) | (simp [KC,hr,hdr];done)) rfl (by first | rfl | (simp;done) | (simp [hdr];done) | (simp [KC,hr,hdr];done)) (fun _=>trivial),BS (L:=Go.Ab.Heap.LJ h (H.bump c.AX k)) rfl rfl (by first | rfl | (simp;done) | (simp [hdr];done) | (simp [KC,hr,hdr];done)) rfl (by first | rfl | (simp;done) | (simp [hdr];done) | (simp [KC,hr,hdr];done)) (fun _=>trivial)⟩)
end Go.Ab.Tryz
namespace Go.Ab
open Go.RowKit
section
variable {cx:Cx} {ops:Array Oper} {Q:Exit -> Act -> World -> Prop} {rest:List Oper} {o:Oper} {a:Act} {w w':World} {v:Value} {n:Nat}
theorem kQ (hg:o.guard=none) (hnd:∀ c,o.op ≠ .defer c) (hr:(execOp a.eval o).run cx.P w=.ok (.value v) w') (k:wpListIn cx.fence n cx.P ops Q rest (a.put o.dst v) w'):wpListIn cx.fence n cx.P ops Q (o :: rest) a w:=by
 unfold wpListIn
 rw [if_pos (by simp [Region.wanted,hg])]
 refine ⟨fun _ _=>trivial,?_⟩
 rw [Oper.semAt_eq _ _ _ hnd,hr]
 exact k
theorem wls (hg:o.guard=none) (hnd:∀ c,o.op ≠ .defer c) (hr:(execOp a.eval o).run cx.P w=.ok .skip w') (k:wpListIn cx.fence n cx.P ops Q rest (a.put o.dst undef) w'):wpListIn cx.fence n cx.P ops Q (o :: rest) a w:=by
 unfold wpListIn
 rw [if_pos (by simp [Region.wanted,hg])]
 refine ⟨fun _ _=>trivial,?_⟩
 rw [Oper.semAt_eq _ _ _ hnd,hr]
 exact k
theorem Ea {d:Nat} (h:d < a.tmps.size):(a.put (some d) v).eval (.tmp d)=v:=by simp [Act.put,Act.eval,h]
theorem IJ {d t:Nat} (h:t ≠ d):(a.put (some d) v).eval (.tmp t)=a.eval (.tmp t):=by
 simp [Act.put,Act.eval,Array.getElem?_setIfInBounds_ne (Ne.symm h)]
theorem Dq {d:Option Nat}:(a.put d v).tmps.size=a.tmps.size:=by cases d<;>simp [Act.put]
theorem Di:a.put none v=a:=rfl
end
end Go.Ab
namespace Go.Ab.Tryz
open Go Go.Ab Go.Proofs Go.RowKit Go.Ab.Gx Go.Maps
abbrev fD (k c:Int):DataW Unit:=.agg [.lit (.int .i64 k),.lit (.int .i64 c)]
def gV:Value -> Option (DataW Unit × List MemPlace)
 | .agg a=>match a.toList with
  | [.int .i64 k,.int .i64 c]=>some (fD k c,[])
  | _=>none
 | _=>none
theorem K8 (k c:Int):gV (.agg #[.int .i64 k,.int .i64 c])=some (fD k c,[]):=rfl
theorem jc {v:Value} {k c:Int} {ps:List MemPlace} (h:gV v=some (fD k c,ps)):v=.agg #[.int .i64 k,.int .i64 c]:=by
 unfold gV at h
 split at h
 ·rename_i a
  split at h
  ·rename_i k' c' e
   simp only [Option.some.injEq,Prod.mk.injEq,DataW.agg.injEq,List.cons.injEq,DataW.lit.injEq,Lit.int.injEq,and_true,true_and] at h
   obtain ⟨⟨rfl,rfl⟩,_⟩:=h
   congr 1
   exact Array.ext' (by rw [e])
  ·cases h
 ·cases h
abbrev kL (T:Tx):Lit:=.string T
theorem Jl (T:Tx):WideAt.IsKeyLit (kL T):=by first | exact trivial | exact ⟨_,rfl⟩ | simp [WideAt.IsKeyLit]
theorem Ms {a b:Tx} (h:a ≠ b):kL a ≠ kL b:=fun e=>h (by injection e)
def fmD:DataW Unit:=(((((DataW.map []).put (kL aJ) (fD 0 0)).put (kL YN) (fD 1 1)).put (kL Qa) (fD 2 2)).put (kL YL) (fD 3 2)).put (kL QZ) (fD 4 0)
theorem qw:IsMap (DataW.map []:DataW Unit):=isMap_empty
theorem uU (w:Tx):Maps.has fmD (kL w)=(Cc w).isSome /\ fmD.atKey (kL w) (fD 0 0)=fD (((Cc w).getD (0,0)).1:Nat) (((Cc w).getD (0,0)).2:Nat):=by
 unfold fmD Cc
 by_cases h5:w=QZ
 ·subst h5
  rw [has_put_same ((((qw.put _ _).put _ _).put _ _).put _ _) (Jl _),atKey_put_same ((((qw.put _ _).put _ _).put _ _).put _ _) (Jl _)]
  exact ⟨rfl,rfl⟩
 ·rw [has_put_other (Ms h5),atKey_put_other (Ms h5)]
  by_cases h4:w=YL
  ·subst h4
   rw [has_put_same (((qw.put _ _).put _ _).put _ _) (Jl _),atKey_put_same (((qw.put _ _).put _ _).put _ _) (Jl _)]
   exact ⟨rfl,rfl⟩
  ·rw [has_put_other (Ms h4),atKey_put_other (Ms h4)]
   by_cases h3:w=Qa
   ·subst h3
    rw [has_put_same ((qw.put _ _).put _ _) (Jl _),atKey_put_same ((qw.put _ _).put _ _) (Jl _)]
    exact ⟨rfl,rfl⟩
   ·rw [has_put_other (Ms h3),atKey_put_other (Ms h3)]
    by_cases h2:w=YN
    ·subst h2
     rw [has_put_same (qw.put _ _) (Jl _),atKey_put_same (qw.put _ _) (Jl _)]
     exact ⟨rfl,rfl⟩
    ·rw [has_put_other (Ms h2),atKey_put_other (Ms h2)]
     by_cases h1:w=aJ
     ·subst h1
      rw [has_put_same qw (Jl _),atKey_put_same qw (Jl _)]
      exact ⟨rfl,rfl⟩
     ·rw [has_put_other (Ms h1),atKey_put_other (Ms h1),if_neg h1,if_neg h2,if_neg h3,if_neg h4,if_neg h5]
      exact ⟨rfl,rfl⟩
theorem Q9 {T:Tx} (h:T.length < 2000000):keyOf Tryz.prog 9 (.string (bs T))=some (kL T):=by
 have:=WideMaps.keyOf_string_mk (P:=Tryz.prog) Tryz.underlying9 (s:=bs T) (by rw [G8];unfold maxLen;omega)
 exact this
theorem A0M (k c:Int) (w:World):(Instr.build 190 #[(0,.int .i64 k),(1,.int .i64 c)]).run Tryz.prog w=.ok (.agg #[.int .i64 k,.int .i64 c]) w:=by kernel_rfl
theorem rC (w:World):(zeroValue 190).run Tryz.prog w=.ok (.agg #[.int .i64 0,.int .i64 0]) w:=Tryz.zeroValue190 w
abbrev kfD (w:Tx):DV:=.agg [.int .i64 (((Cc w).getD (0,0)).1:Nat),.int .i64 (((Cc w).getD (0,0)).2:Nat)]
section
variable {a:Act} {d:Option Nat} {ty:TypeId} {p:String} {af:Array Edge} {gd:Option (Nat × Bool)} {w w':World} {b j:Nat} {x y:Operand} {v:Value}
theorem xR {P:Program} {v0 v1 u:Value} (h:(Instr.build 190 #[(0,v0),(1,v1)]).run P w=.ok u w):(execOp a.eval ⟨d,.build 190 #[(0,.const v0),(1,.const v1)],ty,p,af,gd⟩).run P w=.ok (.value u) w:=by
 unfold execOp
 simp only [Sem.run_bind,List.map_toArray,List.map_cons,List.map_nil,Act.eval]
 rw [h];rfl
theorem YK {k c:Int}:(execOp a.eval ⟨d,.build 190 #[(0,.const (.int .i64 k)),(1,.const (.int .i64 c))],ty,p,af,gd⟩).run Tryz.prog w=.ok (.value (.agg #[.int .i64 k,.int .i64 c])) w:=xR (A0M k c w)
theorem YJ {key val:Value} (h1:a.eval (.tmp 15)=.map (some b)) (h2:a.eval (.tmp j)=val) (r:(Instr.mapUpdate 192 (.map (some b)) key val).run Tryz.prog w=.ok () w'):(execOp a.eval ⟨d,.insert 192 (.tmp 15) (.const key) (.tmp j),ty,p,af,gd⟩).run Tryz.prog w=.ok .skip w':=by
 show (do Instr.mapUpdate 192 (a.eval (.tmp 15)) key (a.eval (.tmp j));pure Next.skip:Sem Next).run Tryz.prog w=_
 simp only [Sem.run_bind,h1,h2,r,Result.andThen_ok,Sem.run_pure]
theorem xQ {o:Op} {P:Program} (h:o=.move x \/ o=.assign x) (hx:a.eval x=v):(execOp a.eval ⟨d,o,ty,p,af,gd⟩).run P w=.ok (.value v) w:=by
 subst hx
 rcases h with rfl | rfl<;>rfl
theorem x_ix {ad:Addr} {n cap:Nat} (hx:a.eval x=.slice (some ad) n cap) (hn:0 < n):(execOp a.eval ⟨d,.indexAddr 30 x (.const (.int .i64 0)),ty,p,af,gd⟩).run Tryz.prog w=.ok (.value (.pointer (some ad))) w:=by
 show (do pure (Next.value (<- Instr.indexAt 30 (a.eval x) (.int .i64 0))):Sem Next).run Tryz.prog w=_
 rw [hx]
 simp only [Sem.run_bind,QB CF DZ ad n cap .i64 0 (by omega) (by simpa using hn),Result.andThen_ok,Sem.run_pure]
 rfl
theorem x_ld {b o:Nat} {u:Value} (hx:a.eval x=.pointer (some ⟨b,o,none⟩)) (hc:w.cell? ⟨b,o,none⟩=some u):(execOp a.eval ⟨d,.load 9 x,ty,p,af,gd⟩).run Tryz.prog w=.ok (.value u) w:=by
 show (do pure (Next.value (<- Instr.loadAt 9 (a.eval x))):Sem Next).run Tryz.prog w=_
 rw [hx]
 simp only [Sem.run_bind,Jk Mk b o w u hc,Result.andThen_ok,Sem.run_pure]
theorem x_lk {mp key u:Value} (h1:a.eval x=mp) (h2:a.eval y=key) (r:(Instr.lookup 192 mp key true).run Tryz.prog w=.ok u w):(execOp a.eval ⟨d,.lookup 192 x y true,ty,p,af,gd⟩).run Tryz.prog w=.ok (.value u) w:=by
 show (do pure (Next.value (<- Instr.lookup 192 (a.eval x) (a.eval y) true)):Sem Next).run Tryz.prog w=_
 simp only [Sem.run_bind,h1,h2,r,Result.andThen_ok,Sem.run_pure]
end
set_option maxHeartbeats 1000000 in
theorem A1Y {cx:Cx} {rest:List Oper} {K:Exit -> St -> Prop} {l:List (Nat × SV)} {m:List (Nat × Nat × Option BG)} {ws:List Tx} {wd:Tx} {id:Nat}
  {t1 t2 t3 t4 t5 t6 t7 t8 t9 t10 t11 t12 t13 t14 t15 t16 t17:TypeId} {p1 p2 p3 p4 p5 p6 p7 p8 p9 p10 p11 p12 p13 p14 p15 p16 p17:String} {a1 a2 a3 a4 a5 a6 a7 a8 a9 a10 a11 a12 a13 a14 a15 a16 a17:Array Edge}
  (hlo:True) (h4:lk l 4=.dv (.list (ws.map CY))) (h0:ws[0]?=some wd) (hw:wd.length < 2000000) (hg:cx.Good) (hP:cx.P=Tryz.prog) (hn:cx.n=84)
  (k:Chain cx (⟨some 15,.makeMap 192 none,t1,p1,a1,none⟩ :: ⟨some 16,.build 190 #[(0,.const (.int .i64 0)),(1,.const (.int .i64 0))],t2,p2,a2,none⟩ :: ⟨none,.insert 192 (.tmp 15) (.const (.string ⟨#[100,97,121]⟩)) (.tmp 16),t3,p3,a3,none⟩ ::
   ⟨some 17,.build 190 #[(0,.const (.int .i64 1)),(1,.const (.int .i64 1))],t4,p4,a4,none⟩ :: ⟨none,.insert 192 (.tmp 15) (.const (.string ⟨#[99,117,116]⟩)) (.tmp 17),t5,p5,a5,none⟩ ::
   ⟨some 18,.build 190 #[(0,.const (.int .i64 2)),(1,.const (.int .i64 2))],t6,p6,a6,none⟩ :: ⟨none,.insert 192 (.tmp 15) (.const (.string ⟨#[108,111,97,100]⟩)) (.tmp 18),t7,p7,a7,none⟩ ::
   ⟨some 19,.build 190 #[(0,.const (.int .i64 3)),(1,.const (.int .i64 2))],t8,p8,a8,none⟩ :: ⟨none,.insert 192 (.tmp 15) (.const (.string ⟨#[119,101,116]⟩)) (.tmp 19),t9,p9,a9,none⟩ ::
   ⟨some 20,.build 190 #[(0,.const (.int .i64 4)),(1,.const (.int .i64 0))],t10,p10,a10,none⟩ :: ⟨none,.insert 192 (.tmp 15) (.const (.string ⟨#[115,104,117,116]⟩)) (.tmp 20),t11,p11,a11,none⟩ ::
   ⟨some 21,.move (.tmp 15),t12,p12,a12,none⟩ :: ⟨some 22,.move (.tmp 4),t13,p13,a13,none⟩ :: ⟨some 23,.indexAddr 30 (.tmp 22) (.const (.int .i64 0)),t14,p14,a14,none⟩ :: ⟨some 24,.load 9 (.tmp 23),t15,p15,a15,none⟩ ::
   ⟨some 25,.lookup 192 (.tmp 21) (.tmp 24) true,t16,p16,a16,none⟩ :: ⟨some 14,.move (.tmp 25),t17,p17,a17,none⟩ :: rest).toArray rest ⟨lk ((14,.FR [.dv (kfD wd),.dv (.bool (Cc wd).isSome)]) :: (25,.dead) :: (24,.dead) :: (23,.dead) :: (22,.dead) :: (21,.dead) :: (20,.dead) :: (19,.dead) :: (18,.dead) :: (17,.dead) :: (16,.dead) :: (15,.dead) :: l),AA m⟩ fun S'=>K .normal S') :
  Eu cx (.region id (⟨some 15,.makeMap 192 none,t1,p1,a1,none⟩ :: ⟨some 16,.build 190 #[(0,.const (.int .i64 0)),(1,.const (.int .i64 0))],t2,p2,a2,none⟩ :: ⟨none,.insert 192 (.tmp 15) (.const (.string ⟨#[100,97,121]⟩)) (.tmp 16),t3,p3,a3,none⟩ ::
   ⟨some 17,.build 190 #[(0,.const (.int .i64 1)),(1,.const (.int .i64 1))],t4,p4,a4,none⟩ :: ⟨none,.insert 192 (.tmp 15) (.const (.string ⟨#[99,117,116]⟩)) (.tmp 17),t5,p5,a5,none⟩ ::
   ⟨some 18,.build 190 #[(0,.const (.int .i64 2)),(1,.const (.int .i64 2))],t6,p6,a6,none⟩ :: ⟨none,.insert 192 (.tmp 15) (.const (.string ⟨#[108,111,97,100]⟩)) (.tmp 18),t7,p7,a7,none⟩ ::
   ⟨some 19,.build 190 #[(0,.const (.int .i64 3)),(1,.const (.int .i64 2))],t8,p8,a8,none⟩ :: ⟨none,.insert 192 (.tmp 15) (.const (.string ⟨#[119,101,116]⟩)) (.tmp 19),t9,p9,a9,none⟩ ::
   ⟨some 20,.build 190 #[(0,.const (.int .i64 4)),(1,.const (.int .i64 0))],t10,p10,a10,none⟩ :: ⟨none,.insert 192 (.tmp 15) (.const (.string ⟨#[115,104,117,116]⟩)) (.tmp 20),t11,p11,a11,none⟩ ::
   ⟨some 21,.move (.tmp 15),t12,p12,a12,none⟩ :: ⟨some 22,.move (.tmp 4),t13,p13,a13,none⟩ :: ⟨some 23,.indexAddr 30 (.tmp 22) (.const (.int .i64 0)),t14,p14,a14,none⟩ :: ⟨some 24,.load 9 (.tmp 23),t15,p15,a15,none⟩ ::
   ⟨some 25,.lookup 192 (.tmp 21) (.tmp 24) true,t16,p16,a16,none⟩ :: ⟨some 14,.move (.tmp 25),t17,p17,a17,none⟩ :: rest).toArray false) K ⟨lk l,AA m⟩:=by
 intro a w hs
 refine wpIn_region_list ?_
 obtain ⟨μ,h⟩:=hs
 have hsz:a.tmps.size=84:=by rw [h.size,hn]
 have wh:=h.slot 4
 have bW:CQ w (XX cx (AA m) μ) (.list (ws.map CY)) (a.tmps.getD 4 undef):=by
  rw [show (⟨lk l,AA m⟩:St).F 4=.dv (.list (ws.map CY)) from h4] at wh
  simpa only [AO] using wh
 have ht:=Tryz.underlying192
 have K9:=string_keyed (P:=Tryz.prog) Tryz.underlying9
 have eP:cx.P=Tryz.prog:=hP
 have nd:∀ {o:Op},(∀ c,o ≠ .defer c) -> ∀ c,o ≠ .defer c:=fun h=>h
 -- the map is made and filled
 have hm0:=World.ownsMap_made w Tryz.prog 9 gV
 obtain ⟨w1,r1,m1,g1⟩:=hm0.update K9 ht (by unfold maxLen;omega) (Q9 (T:=aJ) (by decide)) (K8 0 0)
 obtain ⟨w2,r2,m2,g2⟩:=m1.update K9 ht (by unfold maxLen;omega) (Q9 (T:=YN) (by decide)) (K8 1 1)
 obtain ⟨w3,r3,m3,g3⟩:=m2.update K9 ht (by unfold maxLen;omega) (Q9 (T:=Qa) (by decide)) (K8 2 2)
 obtain ⟨w4,r4,m4,g4⟩:=m3.update K9 ht (by unfold maxLen;omega) (Q9 (T:=YL) (by decide)) (K8 3 2)
 obtain ⟨w5,r5,m5,g5⟩:=m4.update K9 ht (by unfold maxLen;omega) (Q9 (T:=QZ) (by decide)) (K8 4 0)
 have hb:Below w.heap.size w w5:=by
  have b0:=(Below.refl w.heap.size w).alloc (Nat.le_refl _) (.map #[] 0)
  have hk:∀ k,some w.heap.size=some k -> w.heap.size <= k:=fun k e=>by cases e;exact Nat.le_refl _
  have b1:=b0.grown g1 b0.size hk
  have b2:=b1.grown g2 b1.size hk
  have b3:=b2.grown g3 b2.size hk
  have b4:=b3.grown g4 b3.size hk
  exact b4.grown g5 b4.size hk
 obtain ⟨v,ps,rl,hv⟩:=m5.look_ok K9 ht (rC w5) (K8 0 0) (Q9 hw)
 obtain ⟨kS,lk2⟩:=uU wd
 have hv2:v=.agg #[.int .i64 (((Cc wd).getD (0,0)).1:Nat),.int .i64 (((Cc wd).getD (0,0)).2:Nat)]:=by
  refine jc (ps:=ps) ?_
  rw [hv]
  exact congrArg (fun d=>some (d,ps)) lk2
 have hok:Maps.has fmD (kL wd)=(Cc wd).isSome:=kS
 -- the word
 generalize hx:a.tmps.getD 4 undef=x4 at bW
 have hf:flat (ws.map CY)=ws.map CY:=II fun _=>rfl
 have hlen:0 < ws.length:=(List.getElem?_eq_some_iff.1 h0).1
 obtain ⟨b4,o4,c4,rfl,hcell⟩:∃ (b o cap:Nat),x4=.slice (some ⟨b,o,none⟩) ws.length cap /\ w5.cell? ⟨b,o,none⟩=some (.string (bs wd)):=by
  generalize hD:ws.map CY=D at bW
  cases bW with
  | Dp ao cap =>
   have:ws=[]:=by
    cases ws with
    | nil=>rfl
    | cons q l=>simp at hD
   subst this;simp at hlen
  | list _ b off cap CS u q1 q2 q3 q4 q5 q6 =>
   have e0:(flat D)[0]?=some (CY wd):=by rw [<- hD,hf];simp [h0]
   have e1:=q5 0 _ e0
   have e2:=Hq (q6 0 _ e0)
   refine ⟨b,off,cap,by rw [<- hD];simp,?_⟩
   rw [hb.cell (p:=⟨b,off,none⟩) q2]
   rw [Nat.add_zero,e2] at e1
   exact e1
 have hev4:a.eval (.tmp 4)=.slice (some ⟨b4,o4,none⟩) ws.length c4:=hx
 show wpListIn cx.fence 0 cx.P _ _ (_ :: _) a w
 refine kQ (v:=.map (some w.heap.size)) (w':=w.alloc (.map #[] 0)) rfl (fun c=>by nofun) (by rw [eP];rfl) ?_
 refine kQ rfl (fun c=>by nofun) (by rw [eP];exact YK) ?_
 refine wls rfl (fun c=>by nofun) (by rw [eP];exact YJ (by simp [Ea,IJ,Dq,Di,hsz]) (by simp [Ea,IJ,Dq,Di,hsz]) r1) ?_
 refine kQ rfl (fun c=>by nofun) (by rw [eP];exact YK) ?_
 refine wls rfl (fun c=>by nofun) (by rw [eP];exact YJ (by simp [Ea,IJ,Dq,Di,hsz]) (by simp [Ea,IJ,Dq,Di,hsz]) r2) ?_
 refine kQ rfl (fun c=>by nofun) (by rw [eP];exact YK) ?_
 refine wls rfl (fun c=>by nofun) (by rw [eP];exact YJ (by simp [Ea,IJ,Dq,Di,hsz]) (by simp [Ea,IJ,Dq,Di,hsz]) r3) ?_
 refine kQ rfl (fun c=>by nofun) (by rw [eP];exact YK) ?_
 refine wls rfl (fun c=>by nofun) (by rw [eP];exact YJ (by simp [Ea,IJ,Dq,Di,hsz]) (by simp [Ea,IJ,Dq,Di,hsz]) r4) ?_
 refine kQ rfl (fun c=>by nofun) (by rw [eP];exact YK) ?_
 refine wls rfl (fun c=>by nofun) (by rw [eP];exact YJ (by simp [Ea,IJ,Dq,Di,hsz]) (by simp [Ea,IJ,Dq,Di,hsz]) r5) ?_
 refine kQ (w':=w5) (v:=.map (some w.heap.size)) rfl (fun c=>by nofun) (xQ (.inl rfl) (by simp [Ea,IJ,Dq,Di,hsz])) ?_
 refine kQ (w':=w5) (v:=.slice (some ⟨b4,o4,none⟩) ws.length c4) rfl (fun c=>by nofun) (xQ (.inl rfl) (by simp [Ea,IJ,Dq,Di,hsz,hev4])) ?_
 refine kQ (w':=w5) (v:=.pointer (some ⟨b4,o4,none⟩)) rfl (fun c=>by nofun) (by rw [eP];exact x_ix (cap:=c4) (by simp [Ea,IJ,Dq,Di,hsz]) hlen) ?_
 refine kQ (w':=w5) (v:=.string (bs wd)) rfl (fun c=>by nofun) (by rw [eP];exact x_ld (by simp [Ea,IJ,Dq,Di,hsz]) hcell) ?_
 refine kQ (w':=w5) (v:=.tuple #[v,.bool (Cc wd).isSome]) rfl (fun c=>by nofun) (by rw [eP];exact x_lk (mp:=.map (some w.heap.size)) (key:=.string (bs wd)) (by simp [Ea,IJ,Dq,Di,hsz]) (by simp [Ea,IJ,Dq,Di,hsz]) (by rw [<- hok];exact rl)) ?_
 refine kQ (w':=w5) (v:=.tuple #[v,.bool (Cc wd).isSome]) rfl (fun c=>by nofun) (xQ (.inl rfl) (by simp [Ea,IJ,Dq,Di,hsz])) ?_
 obtain ⟨μ',i1,_⟩:=NI h hb (Y:=XX cx (AA m) μ) (fun b hb=>hb) (res:=.one (.dv (.bool true))) (v:=.bool true) (NH (.bool true)) 0
 have i2:Bc cx ⟨lk l,AA m⟩ a w5 μ':=i1
 have ss:∀ {l:List (Nat × SV)} {a:Act} (d:Nat) (r:SV) (v:Value),d < cx.n -> AO w5 (AA m) μ' (XX cx (AA m) μ') r v -> Bc cx ⟨lk l,AA m⟩ a w5 μ' -> Bc cx ⟨lk ((d,r) :: l),AA m⟩ (a.put (some d) v) w5 μ':=fun d r v hd hr hh=>by
  have:=hh.set hd (r:=r) (v:=v) hr
  rw [<- FB];exact this
 have dd:∀ {l:List (Nat × SV)} {a:Act} (d:Nat) (v:Value),d < 84 -> Bc cx ⟨lk l,AA m⟩ a w5 μ' -> Bc cx ⟨lk ((d,.dead) :: l),AA m⟩ (a.put (some d) v) w5 μ':=fun d v hd hh =>
  ss d .dead v (by omega) (by simp only [AO]) hh
 refine Oy hg (fun S a w h1 h2=>.inl ⟨S,h1,h2⟩) rest _ _ _ ⟨μ',?_⟩ k
 simp only [Di]
 refine ss 14 _ _ (by omega) ?_ (dd _ _ (by decide) (dd _ _ (by decide) (dd _ _ (by decide) (dd _ _ (by decide) (dd _ _ (by decide) (dd _ _ (by decide) (dd _ _ (by decide) (dd _ _ (by decide) (dd _ _ (by decide) (dd _ _ (by decide) (dd _ _ (by decide) i2)))))))))))
 refine ⟨[v,.bool (Cc wd).isSome],rfl,?_⟩
 subst hv2
 refine ⟨?_,?_,trivial⟩
 ·simp only [AO]
  refine .agg _ _ rfl fun j c hj=>?_
  match j,hj with
  | 0,hj=>cases hj;exact .int _ _
  | 1,hj=>cases hj;exact .int _ _
 ·simp only [AO];exact .bool _
end Go.Ab.Tryz
