/- BogQ1, BogQ2, BogQ3, BogPa. -/
import Derived.Test.YtjcecljhjailiaaGreatDoorBogG23
import Derived.Test.YtjcecljhjailiaaGreatDoorBogG23
import Derived.Test.YtjcecljhjailiaaGreatDoorBogG23
import Derived.Test.YtjcecljhjailiaaGreatDoorBogG22
import Derived.Test.YtjcecljhjailiaaGreatDoorBogG07
import Derived.Test.YtjcecljhjailiaaGreatDoorBogG12
import Derived.Maps.OwnSet
set_option linter.all false
namespace Go.Ab.Tryz
open Go Go.Ab Go.Proofs Go.Ab.Ck Go.Ab.Gi
open Go.Ab.Heap (Az Ap BX)
open Go.Ab.Heap (Hp GX validate sm)
abbrev stC (c:Cs) (q:Nat):List SV:=[.dv (i64 c.day),.dv (ints c.AU),.dv (ints c.Ad),.dv (i64 (c.Gj:Int)),.dv (i64 c.EL),.dv (i64 c.cut),.dv (i64 c.loaded),.dv (.bool c.shut),.sl q 0 0 c.orders.length]
abbrev stB (c:Cs) (q st:Nat):Au:=⟨stC c q,0,98,st,false⟩
abbrev coC (b:Bg) (h:Hp) (n:Int) (c:Cs) (s:Int) (q:Nat):List SV:=[.dv (.int .i32 s),.dv (.int .u32 0),.dv (.list (b.worth.map ints)),.dv (.list (h.links.map ints)),.dv (ints h.ground),.dv (i64 (b.dep:Int)),.dv (i64 (b.worth.length:Int)),.dv (i64 n),
 .dv (i64 c.day),.dv (ints c.AU),.dv (ints c.Ad),.dv (i64 (c.Gj:Int)),.dv (i64 c.EL),.dv (i64 c.cut),.dv (i64 c.loaded),.dv (.bool c.shut),.sl q 0 0 c.orders.length]
abbrev VQ (b:Bg) (h:Hp) (n:Int) (c:Cs) (s:Int) (q st:Nat):Au:=⟨coC b h n c s q,0,100,st,false⟩
abbrev Di (L:List Tx) (st:Nat):Au:=⟨L.map fun T=>.dv (Cg T),1,9,st,true⟩
abbrev three (b:Bg) (h:Hp) (n:Int) (c d:Cs) (s:Int):List (Nat × Au):=[(100000,stB d 100002 100003),(100001,VQ b h n c s 100002 100004),(100002,Di c.orders 100005)]
theorem KS:Gt 0=.nilIface:=rfl
theorem Fj {e:Int} (h:e ≠ 0):Gt e=.iface 133 (.agg [.int .i64 e]):=by unfold Gt;rw [if_neg h]
def jJ (e:Int) (x c:Cs):Cs:=if e=0 then x else c
theorem TQ {x c:Cs}:jJ 0 x c=x:=rfl
theorem Jr {e:Int} {x c:Cs} (h:e ≠ 0):jJ e x c=c:=by unfold jJ;rw [if_neg h]
theorem oZ {c:Cs} {i m:Nat} (h:c.Ad.length <= i):FW c i m=4:=by unfold FW;rw [if_pos h]
theorem og {c:Cs} {i m:Nat} (h:¬ c.Ad.length <= i) (hm:m=0):FW c i m=1:=by unfold FW;rw [if_neg h,if_pos hm]
theorem jZ {c:Cs} {i m:Nat} (h:¬ c.Ad.length <= i) (hm:¬ m=0) (hl:Az c.Ad i < m):FW c i m=11:=by unfold FW;rw [if_neg h,if_neg hm,if_pos hl]
theorem oW {c:Cs} {i m:Nat} (h:¬ c.Ad.length <= i) (hm:¬ m=0) (hl:¬ Az c.Ad i < m):FW c i m=0:=by unfold FW;rw [if_neg h,if_neg hm,if_neg hl]
set_option maxHeartbeats 1000000 in
theorem f153 (b:Bg) (h:Hp) (n:Int) (c:Cs) (s:Int) (i m:Nat) (F:Fn b h n) (ok:C9 b h n c) (hi:i < 1000) (hm:m < 1000):BA Tryz.prog 153 [.pt 100001 0 0,.pt 100000 0 0,.dv (i64 (i:Int)),.dv (i64 (m:Int))] (Bj (three b h n c c s)) ⟨[.dv (Gt (FW c i m))],Bj (three b h n c (jJ (FW c i m) (TY c i m) c) s)⟩:=by
 have hld:=ok.ldb
 have hl0:=ok.vZ
 have hmo:=ok.oO
 have htl:=ok.MV
 have h5:=F.vh.n5
 have htb:∀ j,j < c.Ad.length -> 0 <= Az c.Ad j /\ Az c.Ad j <= 30:=fun j hj=>(ok.t30 F.vh).bd j (by omega)
 refine EI Tryz.func153 rfl rfl (by rw [Tryz.ntmps153];simp) fun cx hP hn hg=>?_
 rw [Tryz.ntmps153] at hn
 refine CB ?_
 refine sg ?_
 refine qv A9 ?_
 refine AL ?_
 refine BI ?_
 refine sg ?_
 iterate 2 refine qv A8 ?_
 refine qv CK ?_
 refine qv (AB FJ) ?_
 refine qv (AQ Av Bz) ?_
 refine qv (BD Cj) ?_
 refine qv FT ?_
 refine qv A9 ?_
 refine cd (fun hc0=>?_) (fun hc0=>?_)
 ·try simp at hc0
  refine sg ?_
  refine qv (DC Ib IW) ?_
  refine Ia ⟨_,Tryz.underlying133,by intro ms;nofun⟩ ?_
  refine qv A9 ?_
  refine AV ?_
  rw [show FW c i m=_ from oZ (by omega)]
  rw [Fj (by decide),Jr (by decide)]
  exact xg [(100000,100000),(100001,100001),(100002,100002)]
 ·try simp at hc0
  refine sg ?_
  refine qv A8 ?_
  refine qv Bl ?_
  refine qv A9 ?_
  refine cd (fun hc1=>?_) (fun hc1=>?_)
  ·try simp at hc1
   refine sg ?_
   refine qv (DC Ib IW) ?_
   refine Ia ⟨_,Tryz.underlying133,by intro ms;nofun⟩ ?_
   refine qv A9 ?_
   refine AV ?_
   rw [show FW c i m=_ from og (by omega) (by omega)]
   rw [Fj (by decide),Jr (by decide)]
   exact xg [(100000,100000),(100001,100001),(100002,100002)]
  ·try simp at hc1
   refine sg ?_
   refine qv A8 ?_
   refine qv CK ?_
   refine qv (AB FJ) ?_
   refine qv (AQ Av Bz) ?_
   have hit:i < c.Ad.length:=by omega
   have hgt:=Ap hit
   have hgb:=htb i hit
   refine qv A8 ?_
   first | refine qv (BF BG Aw) ?_ | refine qv (Bf BG Aw) ?_
   refine qv (Bb Aw Bw) ?_
   refine qv A8 ?_
   refine qv BK ?_
   refine qv A9 ?_
   refine cd (fun hc2=>?_) (fun hc2=>?_)
   ·try simp at hc2
    refine sg ?_
    refine qv (DC Ib IW) ?_
    refine Ia ⟨_,Tryz.underlying133,by intro ms;nofun⟩ ?_
    refine qv A9 ?_
    refine AV ?_
    rw [show FW c i m=_ from jZ (by omega) (by omega) (by omega)]
    rw [Fj (by decide),Jr (by decide)]
    exact xg [(100000,100000),(100001,100001),(100002,100002)]
   ·try simp at hc2
    refine Af ?_
    refine sg ?_
    iterate 2 refine qv A8 ?_
    refine qv CK ?_
    refine qv (AB FJ) ?_
    refine qv (AQ Av Bz) ?_
    refine CF (f97 c.Ad (by omega)) ?_
    refine qv CK ?_
    refine qv (AB FJ) ?_
    refine qs (Cu Av) ?_
    refine sg ?_
    refine qv A8 ?_
    refine qv CK ?_
    refine qv (AB FJ) ?_
    refine qv (AQ Av Bz) ?_
    refine qv A8 ?_
    refine qv (CR BG Aw) ?_
    first | refine qv (Ig Aw Bw) ?_ | refine qv (AQ Aw Bw) ?_
    refine qv A8 ?_
    refine qv Gf ?_
    refine qv (CR BG Aw) ?_
    first | refine qs (KI Aw) ?_ | refine qs (Cu Aw) ?_
    refine sg ?_
    refine qv A8 ?_
    refine qv CK ?_
    refine qv (AB OU) ?_
    refine qv (AQ Aw Bw) ?_
    refine qv A8 ?_
    refine qv Aq ?_
    refine qv CK ?_
    refine qv (AB OU) ?_
    refine qs (Cu Aw) ?_
    refine sg ?_
    refine qv A8 ?_
    refine qv CK ?_
    refine qv (AB Jj) ?_
    refine qv (AQ Aw Bw) ?_
    refine qv A8 ?_
    refine qv Aq ?_
    refine qv CK ?_
    refine qv (AB Jj) ?_
    refine qs (Cu Aw) ?_
    refine sg ?_
    refine qv A9 ?_
    refine Dz 41 ?_
    refine AV ?_
    rw [show FW c i m=0 from oW (by omega) (by omega) (by omega)]
    rw [KS,TQ]
    exact xg [(100000,100000),(100001,100001),(100002,100002)] (h2:=by
     simp [Cm,Ar,Aa,AX,isLive,AZ,Bj,AA,DZ,BO,BN,CW,Al,BL,BP,BS,BQ,BR,ED,TY]
     exact Bc (L:=c.Ad.set i (Az c.Ad i - m)) rfl rfl (by simp) rfl (by simp) (fun _=>trivial))
end Go.Ab.Tryz
namespace Go.Ab.Tryz
open Go Go.Ab Go.Proofs Go.Ab.Ck Go.Ab.Gi
open Go.Ab.Heap (Az Ap BX)
open Go.Ab.Heap (Hp GX validate sm)
theorem jh {b:Bg} {c:Cs} {r k:Nat} (h:b.dep <= r \/ b.worth.length <= k):Iz b c r k=4:=by unfold Iz;rw [if_pos h]
theorem vo {b:Bg} {c:Cs} {r k:Nat} (h:¬ (b.dep <= r \/ b.worth.length <= k)) (h2:Az c.AU k <= r):Iz b c r k=8:=by unfold Iz;rw [if_neg h,if_pos h2]
theorem vv {b:Bg} {c:Cs} {r k:Nat} (h:¬ (b.dep <= r \/ b.worth.length <= k)) (h2:¬ Az c.AU k <= r) (h3:c.Gj.testBit (r * b.worth.length+k)=true):Iz b c r k=5:=by unfold Iz;rw [if_neg h,if_neg h2,if_pos h3]
theorem vk {b:Bg} {c:Cs} {r k:Nat} (h:¬ (b.dep <= r \/ b.worth.length <= k)) (h2:¬ Az c.AU k <= r) (h3:c.Gj.testBit (r * b.worth.length+k)=false):Iz b c r k=0:=by unfold Iz;rw [if_neg h,if_neg h2,h3];rfl
theorem sJ {w k:Nat}:w &&& 2 ^ k=if w.testBit k then 2 ^ k else 0:=by
 apply Nat.eq_of_testBit_eq
 intro i
 rw [Nat.testBit_and,Nat.testBit_two_pow]
 by_cases h:k=i
 ·subst h
  cases hw:w.testBit k<;>simp [hw]
 ·split<;>simp [h,Nat.testBit_two_pow]
theorem Rp {w k:Nat}:((w &&& 2 ^ k:Nat):Int) ≠ 0 ↔ w.testBit k=true:=by
 rw [sJ]
 have h2:=Nat.two_pow_pos k
 cases hw:w.testBit k with
 | false=>simp
 | true =>
  simp only [if_true]
  refine ⟨fun _=>trivial,fun _=>?_⟩
  generalize 2 ^ k=z at h2
  omega
theorem xQ {b:Bg} {h:Hp} {n:Int} {c:Cs} {s:Int} {q:Nat}:coC b h n c s q=(rR b h n c s).map .dv ++ [.sl q 0 0 c.orders.length]:=rfl
theorem NY {M:Nat -> Nat × Option Au} {b:Bg} {h:Hp} {n:Int} {c:Cs} {s:Int} {q st t g:Nat} (hM:M t=(g,some (VQ b h n c s q st))):Fu M (.pt t g 0) (.Cy (rR b h n c s)):=by
 refine .pt t g 0 _ _ (fun j=>.dv ((rR b h n c s).getD j default)) hM trivial (fun j c' hj=>?_) fun j c' hj=>?_
 ·have hl:=(List.getElem?_eq_some_iff.1 hj).1
  have e:(rR b h n c s).getD j default=c':=by simp [hj]
  rw [e]
  show (coC b h n c s q)[0+j]?=_
  rw [xQ,Nat.zero_add,List.getElem?_append_left (by simpa using hl),List.getElem?_map,hj]
  rfl
 ·have:(rR b h n c s).getD j default=c':=by simp [hj]
  rw [this]
  exact .dv c' trivial
set_option maxHeartbeats 1000000 in
theorem f154 (b:Bg) (h:Hp) (n:Int) (c:Cs) (s:Int) (r k:Nat) (F:Fn b h n) (ok:C9 b h n c) (hr:r < 1000) (hk:k < 1000):BA Tryz.prog 154 [.pt 100001 0 0,.pt 100000 0 0,.dv (i64 (r:Int)),.dv (i64 (k:Int))] (Bj (three b h n c c s)) ⟨[.dv (Gt (Iz b c r k))],Bj (three b h n c (jJ (Iz b c r k) (eY b c r k) c) s)⟩:=by
 have hwf:=ok.Gj n
 have zZ:=NQ F.mn
 have tY:=ok.hol.len
 have hbd:=ok.hol.bd
 have X8:=F.bg.n6
 have hd4:=F.bg.d4
 refine EI Tryz.func154 rfl rfl (by rw [Tryz.ntmps154];simp) fun cx hP hn hg=>?_
 rw [Tryz.ntmps154] at hn
 refine CB ?_
 refine sg ?_
 refine qv A9 ?_
 refine AL ?_
 refine sg ?_
 iterate 2 refine qv A8 ?_
 refine qv CK ?_
 refine qv (AB Jl) ?_
 refine qv (AB Fh) ?_
 refine qv (AQ Aw Bw) ?_
 refine qv FT ?_
 refine qx A8 (fun XV=>?_) (fun XV=>?_)
 ·try simp at XV
  iterate 7 refine qk ?_
  refine qv Ae ?_
  refine G5 (hb:=by first | rfl | simp | simp_all) (ht:=?_)
  refine sg ?_
  refine qv (DC Ib IW) ?_
  refine Ia ⟨_,Tryz.underlying133,by intro ms;nofun⟩ ?_
  refine qv A9 ?_
  refine AV ?_
  rw [show Iz b c r k=_ from jh (by omega)]
  rw [Fj (by decide),Jr (by decide)]
  exact xg [(100000,100000),(100001,100001),(100002,100002)]
 ·try simp at XV
  iterate 2 refine qv A8 ?_
  refine qv CK ?_
  refine qv (AB Jl) ?_
  refine qv (AB DF) ?_
  refine qv (AQ Aw Bw) ?_
  refine qv FT ?_
  refine qv Ae ?_
  refine cd (fun hc0=>?_) (fun hc0=>?_)
  ·try simp at hc0
   refine sg ?_
   refine qv (DC Ib IW) ?_
   refine Ia ⟨_,Tryz.underlying133,by intro ms;nofun⟩ ?_
   refine qv A9 ?_
   refine AV ?_
   rw [show Iz b c r k=_ from jh (by omega)]
   rw [Fj (by decide),Jr (by decide)]
   exact xg [(100000,100000),(100001,100001),(100002,100002)]
  ·try simp at hc0
   refine Af ?_
   refine AL ?_
   refine sg ?_
   iterate 2 refine qv A8 ?_
   refine qv CK ?_
   refine qv (AB Eb) ?_
   refine qv (AQ Av Bz) ?_
   have hkt:k < c.AU.length:=by omega
   have hgt:=Ap hkt
   have hgb:=hbd k hkt
   refine qv A8 ?_
   first | refine qv (BF BG Aw) ?_ | refine qv (Bf BG Aw) ?_
   refine qv (Bb Aw Bw) ?_
   refine qv FT ?_
   refine cd (fun hc1=>?_) (fun hc1=>?_)
   ·try simp at hc1
    refine sg ?_
    refine qv (DC Ib IW) ?_
    refine Ia ⟨_,Tryz.underlying133,by intro ms;nofun⟩ ?_
    refine qv A9 ?_
    refine AV ?_
    rw [show Iz b c r k=_ from vo (by omega) (by omega)]
    rw [Fj (by decide),Jr (by decide)]
    exact xg [(100000,100000),(100001,100001),(100002,100002)]
   ·try simp at hc1
    refine Af ?_
    refine AL ?_
    refine AL ?_
    refine rd mixed ?_
    refine zv A8 ?_
    refine zv CK ?_
    refine zv (AB J4) ?_
    refine zv (AQ Aw Bw) ?_
    iterate 3 refine zv A8 ?_
    refine Kz (R:=[100001]) (f90 b F.bg h n c s r k (by omega) (by omega)) ?_ (ha:=(CV (NY (by (first | (simp only [AA,reduceIte,Nat.reduceEqDiff]<;>rfl) | (simp [Oe,AA]<;>rfl)))) (CV Bo (CV Bo FI))))
    refine zv (Qt (ha:=by omega) (hb:=by have:=Sz F.bg (r:=r) (k:=k) (by omega) (by omega);omega)) ?_
    refine zv Ay ?_
    refine ⟨by rfl,?_⟩
    refine cd (fun hc2=>?_) (fun hc2=>?_)
    ·skip
     refine sg ?_
     refine qv (DC Ib IW) ?_
     refine Ia ⟨_,Tryz.underlying133,by intro ms;nofun⟩ ?_
     refine qv A9 ?_
     refine AV ?_
     rw [show Iz b c r k=_ from vv (by omega) (by omega) (Rp.1 (by simpa [gX] using hc2))]
     rw [Fj (by decide),Jr (by decide)]
     exact xg [(100000,100000),(100001,100001),(100002,100002)]
    ·skip
     refine Af ?_
     refine AL ?_
     refine rd mixed ?_
     refine zv A8 ?_
     refine zv CK ?_
     refine zv (AB J4) ?_
     refine zv (AQ Aw Bw) ?_
     iterate 3 refine zv A8 ?_
     refine Kz (R:=[100001]) (f90 b F.bg h n c s r k (by omega) (by omega)) ?_ (ha:=(CV (NY (by (first | (simp only [AA,reduceIte,Nat.reduceEqDiff]<;>rfl) | (simp [Oe,AA]<;>rfl)))) (CV Bo (CV Bo FI))))
     refine zv (D9 (ha:=by omega) (hb:=by have:=Sz F.bg (r:=r) (k:=k) (by omega) (by omega);omega)) ?_
     refine zv CK ?_
     refine zv (AB J4) ?_
     refine zs (Cu Aw) ?_
     refine ⟨by rfl,?_⟩
     refine sg ?_
     refine qv A9 ?_
     refine AV ?_
     rw [show Iz b c r k=0 from vk (by omega) (by omega) (by cases hq:c.Gj.testBit (r * b.worth.length+k) with
      | false=>rfl
      | true=>exact absurd (Rp.2 hq) (by simpa [gX] using hc2))]
     rw [KS,TQ]
     exact xg [(100000,100000),(100001,100001),(100002,100002)] (h2:=by simp [Cm,Ar,Aa,AX,isLive,AZ,Bj,AA,DZ,BO,BN,CW,Al,BL,BP,BS,BQ,BR,ED,eY,gX])
end Go.Ab.Tryz
namespace Go.Ab.Tryz
open Go Go.Ab Go.Proofs Go.Ab.Ck Go.Ab.Gi
open Go.Ab.Heap (Az Ap BX)
open Go.Ab.Heap (Hp GX validate sm)
theorem xH {b:Bg} {c:Cs} {k:Nat} (h:b.worth.length <= k):IU b c k=4:=by unfold IU;rw [if_pos h]
theorem xG {b:Bg} {c:Cs} {k:Nat} (h:¬ b.worth.length <= k) (h2:c.shut=true):IU b c k=8:=by unfold IU;rw [if_neg h,if_pos h2]
theorem lN {b:Bg} {c:Cs} {k:Nat} (h:¬ b.worth.length <= k) (h2:c.shut=false) (h3:(!Ep b c.AU k || G7 b c k)=true):IU b c k=6:=by unfold IU;rw [if_neg h,if_neg (by simp [h2]),if_pos h3]
theorem lM {b:Bg} {c:Cs} {k:Nat} (h:¬ b.worth.length <= k) (h2:c.shut=false) (h3:Ep b c.AU k=true) (h4:G7 b c k=false):IU b c k=0:=by unfold IU;rw [if_neg h,if_neg (by simp [h2]),if_neg (by simp [h3,h4])]
theorem vO {p:Nat -> Bool} {n k:Nat}:(ns ((List.range n).filter p)).contains (k:Int)=(decide (k < n) && p k):=by
 rw [Bool.eq_iff_iff,List.contains_iff_mem,ns,List.mem_map]
 simp only [List.mem_filter,List.mem_range,Bool.and_eq_true,decide_eq_true_eq]
 constructor
 ·rintro ⟨j,⟨h1,h2⟩,h3⟩
  have:j=k:=by omega
  subst this;exact ⟨h1,h2⟩
 ·rintro ⟨h1,h2⟩
  exact ⟨k,⟨h1,h2⟩,rfl⟩
theorem jM {b:Bg} {h:Hp} {n:Int} {c:Cs} (ok:C9 b h n c) {k:Nat} (hk:k < b.worth.length):(Ms b c.AU).contains (k:Int)=Ep b c.AU k:=by
 unfold Ms jN
 rw [if_pos ok.qA,vO]
 have:k < c.AU.length:=by rw [ok.hol.len];exact hk
 simp [this]
theorem eG {b:Bg} {l:List Int} (h:l.length <= 6):(Ms b l).length <= 6:=by
 unfold Ms jN
 split
 ·have:=RG (p:=Ep b l) (k:=l.length)
  rw [Yr];omega
 ·simp
theorem aG {b:Bg} {l:List Int} {k:Nat} (h:Ep b l k=true):Az l k+1 <= b.dep:=by
 unfold Ep at h
 simp only [Bool.and_eq_true,decide_eq_true_eq] at h
 exact h.1
theorem dF {b:Bg} {c:Cs} {k q:Nat} (h:Az c.AU k=((q+1:Nat):Int)):G7 b c k=c.Gj.testBit (q * b.worth.length+k):=by
 unfold G7
 rw [h,Int.toNat_natCast,decide_eq_true (by omega:(0:Int) < ((q+1:Nat):Int)),Bool.true_and,Nat.add_sub_cancel]
theorem dG {b:Bg} {c:Cs} {k:Nat} (h:¬ 0 < Az c.AU k):G7 b c k=false:=by
 unfold G7
 rw [decide_eq_false h];rfl
theorem r9 {b:Bg} {h:Hp} {n:Int} {c:Cs} (F:Fn b h n) (ok:C9 b h n c) {k:Nat} (hk:k < b.worth.length):H.Oy h c.Ad (k:Int)=(Go.Ab.Heap.Ua h (H.bump c.Ad k),sm (Az (Go.Ab.Heap.LY h (H.bump c.Ad k))) h.ground.length,0) :=
 H.Po (H.vL (ok.chk F) (by rw [F.len];exact hk))
set_option maxHeartbeats 4000000 in
set_option maxRecDepth 100000 in
theorem f152 (b:Bg) (h:Hp) (n:Int) (c:Cs) (s:Int) (k:Nat) (F:Fn b h n) (ok:C9 b h n c) (hk:k < 1000):BA Tryz.prog 152 [.pt 100001 0 0,.pt 100000 0 0,.dv (i64 (k:Int))] (Bj (three b h n c c s)) ⟨[.dv (Gt (IU b c k))],Bj (three b h n c (jJ (IU b c k) (ZP b h c k) c) s)⟩:=by
 have hwf:=ok.Gj n
 have zZ:=NQ F.mn
 have tY:=ok.hol.len
 have hbd:=ok.hol.bd
 have X8:=F.bg.n6
 have hd4:=F.bg.d4
 have hmo:=ok.oO
 have hcu:=ok.lV
 have hh0:=ok.qA
 have hol:=eG (b:=b) (l:=c.AU) (by omega)
 refine EI Tryz.func152 rfl rfl (by rw [Tryz.ntmps152];simp) fun cx hP hn hg=>?_
 rw [Tryz.ntmps152] at hn
 refine CB ?_
 refine sg ?_
 refine qv A9 ?_
 refine AL ?_
 refine sg ?_
 iterate 2 refine qv A8 ?_
 refine qv CK ?_
 refine qv (AB Eb) ?_
 refine qv (AQ Av Bz) ?_
 refine qv (BD Cj) ?_
 refine qv FT ?_
 refine cd (fun hc0=>?_) (fun hc0=>?_)
 ·try simp at hc0
  refine sg ?_
  refine qv (DC Ib IW) ?_
  refine Ia ⟨_,Tryz.underlying133,by intro ms;nofun⟩ ?_
  refine qv A9 ?_
  refine AV ?_
  rw [show IU b c k=_ from xH (by omega)]
  rw [Fj (by decide),Jr (by decide)]
  exact xg [(100000,100000),(100001,100001),(100002,100002)]
 ·try simp at hc0
  refine Af ?_
  refine AL ?_
  refine sg ?_
  refine qv A8 ?_
  refine qv CK ?_
  refine qv (AB RI) ?_
  refine qv (AQ Ga YO) ?_
  refine cd (fun hc1=>?_) (fun hc1=>?_)
  ·try simp at hc1
   refine sg ?_
   refine qv (DC Ib IW) ?_
   refine Ia ⟨_,Tryz.underlying133,by intro ms;nofun⟩ ?_
   refine qv A9 ?_
   refine AV ?_
   rw [show IU b c k=_ from xG (by omega) (by simpa using hc1)]
   rw [Fj (by decide),Jr (by decide)]
   exact xg [(100000,100000),(100001,100001),(100002,100002)]
  ·try simp at hc1
   refine Af ?_
   refine AL ?_
   refine rd mixed ?_
   refine zv A8 ?_
   refine zv CK ?_
   refine zv (AB NT) ?_
   refine zv (AY Dw EC) ?_
   refine zv A8 ?_
   refine zv CK ?_
   refine zv (AB Eb) ?_
   refine zv (AQ Av Bz) ?_
   refine Kz (R:=[]) (f183 b c.AU) ?_
   refine zv A8 ?_
   iterate 2 refine zv BZ ?_
   iterate 2 refine zv A9 ?_
   refine ⟨by rfl,?_⟩
   refine AL ?_
   refine sg ?_
   refine qv A8 ?_
   refine qv Ay ?_
   refine Dy (hb:=(by simp [hh0])) (ht:=?_)
   refine Af ?_
   refine sg ?_
   refine qv A8 ?_
   refine qv CK ?_
   refine qv (AB Eb) ?_
   refine qv (AQ Av Bz) ?_
   have hkt:k < c.AU.length:=by omega
   have hgt:=Ap hkt
   have hgb:=hbd k hkt
   obtain ⟨r,hr⟩:∃ r:Nat,Az c.AU k=r:=⟨(Az c.AU k).toNat,by omega⟩
   have hcon:=jM ok (k:=k) (by omega)
   have hdr:=r9 F ok (k:=k) (by omega)
   have hbl:=H.UZ (h:=h) (a:=H.bump c.Ad k)
   rw [hr] at hgt hgb
   refine qv A8 ?_
   first | refine qv (BF BG Aw) ?_ | refine qv (Bf BG Aw) ?_
   refine qv (Bb Aw Bw) ?_
   refine qv A9 ?_
   refine AL ?_
   refine AL ?_
   refine rd mixed ?_
   iterate 2 refine zv A8 ?_
   refine Kz (R:=[36]) (f184 (Ms b c.AU) (k:Int) (by omega)) ?_ (ha:=(CV (Bc (L:=Ms b c.AU) (by (first | (simp only [AA,reduceIte,Nat.reduceEqDiff]<;>rfl) | (simp [Oe,AA]<;>rfl))) trivial rfl rfl rfl (fun _=>trivial)) (CV Bo FI)))
   refine zv CP ?_
   refine zx A8 (fun fC=>?_) (fun fC=>?_)
   ·try simp at fC
    iterate 15 refine zk ?_
    refine zv Ae ?_
    refine ⟨by rfl,?_⟩
    refine G5 (hb:=by first | rfl | simp | simp_all) (ht:=?_)
    refine sg ?_
    refine qv (DC Ib IW) ?_
    refine Ia ⟨_,Tryz.underlying133,by intro ms;nofun⟩ ?_
    refine qv A9 ?_
    refine AV ?_
    rw [show IU b c k=_ from lN (by omega) (by simpa using hc1) (by
     first
     | (rw [hab,Bool.or_true];done)
     | (rw [show Ep b c.AU k=false by rw [<- hcon];simpa using fC];rfl))]
    rw [Fj (by decide),Jr (by decide)]
    exact xg [(100000,100000),(100001,100001),(100002,100002)]
   ·try simp at fC
    have hop:Ep b c.AU k=true:=by rw [<- hcon];simpa using fC
    refine zv A8 ?_
    refine zv Dk ?_
    refine zx A8 (fun Ls=>?_) (fun Ls=>?_)
    ·try simp at Ls
     refine zv A8 ?_
     refine zv CK ?_
     refine zv (AB J4) ?_
     refine zv (AQ Aw Bw) ?_
     iterate 2 refine zv A8 ?_
     refine zv Gf ?_
     refine zv A8 ?_
     obtain ⟨q,hq⟩:∃ q,r=q+1:=⟨r - 1,by omega⟩
     rw [show ((r:Int) - 1)=((q:Nat):Int) by omega]
     have hsq:=Sz F.bg (r:=q) (k:=k) (by omega) (by omega)
     refine Kz (R:=[100001]) (f90 b F.bg h n c s q k (by omega) (by omega)) ?_ (ha:=(CV (NY (by (first | (simp only [AA,reduceIte,Nat.reduceEqDiff]<;>rfl) | (simp [Oe,AA]<;>rfl)))) (CV Bo (CV Bo FI))))
     refine zv (Qt (ha:=by omega) (hb:=by omega)) ?_
     refine zv Ay ?_
     iterate 2 refine zv Ae ?_
     refine ⟨by rfl,?_⟩
     refine cd (fun hc3=>?_) (fun hc3=>?_)
     ·skip
      have hab:G7 b c k=true:=by rw [dF (q:=q) (by rw [hr,hq])];exact Rp.1 (by simpa [gX] using hc3)
      refine sg ?_
      refine qv (DC Ib IW) ?_
      refine Ia ⟨_,Tryz.underlying133,by intro ms;nofun⟩ ?_
      refine qv A9 ?_
      refine AV ?_
      rw [show IU b c k=_ from lN (by omega) (by simpa using hc1) (by
       first
       | (rw [hab,Bool.or_true];done)
       | (rw [show Ep b c.AU k=false by rw [<- hcon];simpa using fC];rfl))]
      rw [Fj (by decide),Jr (by decide)]
      exact xg [(100000,100000),(100001,100001),(100002,100002)]
     ·skip
      have hna:G7 b c k=false:=by
       rw [dF (q:=q) (by rw [hr,hq])]
       cases hw:c.Gj.testBit (q * b.worth.length+k) with
       | false=>rfl
       | true=>exact absurd (Rp.2 hw) (by simpa [gX] using hc3)
      refine Af ?_
      refine AL ?_
      refine rd mixed ?_
      have hna:G7 b c k=false:=by first | assumption | exact dG (by rw [hr];omega)
      refine zv A8 ?_
      refine zv CK ?_
      refine zv (AB Pm) ?_
      refine zv (AY Dp Dt) ?_
      refine zv A8 ?_
      refine zv CK ?_
      refine zv (AB FJ) ?_
      refine zv (AQ Av Bz) ?_
      refine zv A8 ?_
      refine Kz (R:=[]) (H.f185 h c.Ad (k:Int)) ?_
      refine zv A8 ?_
      iterate 3 refine zv BZ ?_
      iterate 3 refine zv A9 ?_
      refine ⟨by rfl,?_⟩
      refine AL ?_
      refine sg ?_
      refine qv A8 ?_
      refine qv Ay ?_
      refine Dy (hb:=(by simp [hdr])) (ht:=?_)
      refine Af ?_
      refine sg ?_
      iterate 2 refine qv A8 ?_
      refine qv CK ?_
      refine qv (AB Eb) ?_
      refine qv (AQ Av Bz) ?_
      refine CF (f97 c.AU (by omega)) ?_
      refine qv CK ?_
      refine qv (AB Eb) ?_
      refine qs (Cu Av) ?_
      refine sg ?_
      refine qv A8 ?_
      refine qv CK ?_
      refine qv (AB Eb) ?_
      refine qv (AQ Av Bz) ?_
      refine qv A8 ?_
      refine qv (CR BG Aw) ?_
      first | refine qv (Ig Aw Bw) ?_ | refine qv (AQ Aw Bw) ?_
      refine qv Aq ?_
      refine qv (CR BG Aw) ?_
      first | refine qs (KI Aw) ?_ | refine qs (Cu Aw) ?_
      refine sg ?_
      iterate 2 refine qv A8 ?_
      refine qv CK ?_
      refine qv (AB FJ) ?_
      refine qs (Cu Av) ?_
      refine AL ?_
      refine rd mixed ?_
      refine zv A8 ?_
      refine zv CK ?_
      refine zv (AB Jj) ?_
      refine zv (AQ Aw Bw) ?_
      refine zv A8 ?_
      refine zv CK ?_
      refine zv (AB NT) ?_
      refine zv (AB Ch) ?_
      refine zv (AQ DJ DW) ?_
      have hcl:=F.bg.len k (by omega)
      have hrd:r < b.dep:=by have:=aG hop;omega
      have hgc:=Eu (b:=b) (i:=k) (by omega)
      have hge:=Ap (a:=b.col k) (i:=r) (by omega)
      have hcb:=Pp F.bg (i:=k) (j:=r) (by omega) hrd
      refine zv A8 ?_
      first | refine zv (BF CJ Av) ?_ | refine zv (Bf CJ Av) ?_
      refine zv (Bb Av Bz) ?_
      refine zv A8 ?_
      first | refine zv (BF BG Aw) ?_ | refine zv (Bf BG Aw) ?_
      refine zv (Bb Aw Bw) ?_
      refine zv Aq ?_
      refine zv CK ?_
      refine zv (AB Jj) ?_
      refine zs (Cu Aw) ?_
      refine ⟨by rfl,?_⟩
      refine sg ?_
      refine qv A8 ?_
      refine qv CK ?_
      refine qv (AB KR) ?_
      refine qv (AQ Aw Bw) ?_
      refine qv Aq ?_
      refine qv CK ?_
      refine qv (AB KR) ?_
      refine qs (Cu Aw) ?_
      refine sg ?_
      refine qv A9 ?_
      refine Dz 98 ?_
      refine Dz 84 ?_
      refine AV ?_
      rw [show IU b c k=0 from lM (by omega) (by simpa using hc1) hop hna]
      rw [KS,TQ]
      exact xg [(100000,100000),(100001,100001),(100002,100002)] (h2:=by
       simp [Cm,Ar,Aa,AX,isLive,AZ,Bj,AA,DZ,BO,BN,CW,Al,BL,BP,BS,BQ,BR,ED,ZP,hr]
       exact ⟨Bc (L:=K5 c.AU k) rfl rfl (by first | rfl | (simp;done) | (simp [hdr];done) | (simp [K5,hr,hdr];done)) rfl (by first | rfl | (simp;done) | (simp [hdr];done) | (simp [K5,hr,hdr];done)) (fun _=>trivial),Bc (L:=Go.Ab.Heap.Ua h (H.bump c.Ad k)) rfl rfl (by first | rfl | (simp;done) | (simp [hdr];done) | (simp [K5,hr,hdr];done)) rfl (by first | rfl | (simp;done) | (simp [hdr];done) | (simp [K5,hr,hdr];done)) (fun _=>trivial)⟩)
    ·try simp at Ls
     iterate 11 refine zk ?_
     iterate 2 refine zv Ae ?_
     refine ⟨by rfl,?_⟩
     refine Dy (hb:=by first | rfl | simp | simp_all) (ht:=?_)
     refine Af ?_
     refine AL ?_
     refine rd mixed ?_
     have hna:G7 b c k=false:=by first | assumption | exact dG (by rw [hr];omega)
     refine zv A8 ?_
     refine zv CK ?_
     refine zv (AB Pm) ?_
     refine zv (AY Dp Dt) ?_
     refine zv A8 ?_
     refine zv CK ?_
     refine zv (AB FJ) ?_
     refine zv (AQ Av Bz) ?_
     refine zv A8 ?_
     refine Kz (R:=[]) (H.f185 h c.Ad (k:Int)) ?_
     refine zv A8 ?_
     iterate 3 refine zv BZ ?_
     iterate 3 refine zv A9 ?_
     refine ⟨by rfl,?_⟩
     refine AL ?_
     refine sg ?_
     refine qv A8 ?_
     refine qv Ay ?_
     refine Dy (hb:=(by simp [hdr])) (ht:=?_)
     refine Af ?_
     refine sg ?_
     iterate 2 refine qv A8 ?_
     refine qv CK ?_
     refine qv (AB Eb) ?_
     refine qv (AQ Av Bz) ?_
     refine CF (f97 c.AU (by omega)) ?_
     refine qv CK ?_
     refine qv (AB Eb) ?_
     refine qs (Cu Av) ?_
     refine sg ?_
     refine qv A8 ?_
     refine qv CK ?_
     refine qv (AB Eb) ?_
     refine qv (AQ Av Bz) ?_
     refine qv A8 ?_
     refine qv (CR BG Aw) ?_
     first | refine qv (Ig Aw Bw) ?_ | refine qv (AQ Aw Bw) ?_
     refine qv Aq ?_
     refine qv (CR BG Aw) ?_
     first | refine qs (KI Aw) ?_ | refine qs (Cu Aw) ?_
     refine sg ?_
     iterate 2 refine qv A8 ?_
     refine qv CK ?_
     refine qv (AB FJ) ?_
     refine qs (Cu Av) ?_
     refine AL ?_
     refine rd mixed ?_
     refine zv A8 ?_
     refine zv CK ?_
     refine zv (AB Jj) ?_
     refine zv (AQ Aw Bw) ?_
     refine zv A8 ?_
     refine zv CK ?_
     refine zv (AB NT) ?_
     refine zv (AB Ch) ?_
     refine zv (AQ DJ DW) ?_
     have hcl:=F.bg.len k (by omega)
     have hrd:r < b.dep:=by have:=aG hop;omega
     have hgc:=Eu (b:=b) (i:=k) (by omega)
     have hge:=Ap (a:=b.col k) (i:=r) (by omega)
     have hcb:=Pp F.bg (i:=k) (j:=r) (by omega) hrd
     refine zv A8 ?_
     first | refine zv (BF CJ Av) ?_ | refine zv (Bf CJ Av) ?_
     refine zv (Bb Av Bz) ?_
     refine zv A8 ?_
     first | refine zv (BF BG Aw) ?_ | refine zv (Bf BG Aw) ?_
     refine zv (Bb Aw Bw) ?_
     refine zv Aq ?_
     refine zv CK ?_
     refine zv (AB Jj) ?_
     refine zs (Cu Aw) ?_
     refine ⟨by rfl,?_⟩
     refine sg ?_
     refine qv A8 ?_
     refine qv CK ?_
     refine qv (AB KR) ?_
     refine qv (AQ Aw Bw) ?_
     refine qv Aq ?_
     refine qv CK ?_
     refine qv (AB KR) ?_
     refine qs (Cu Aw) ?_
     refine sg ?_
     refine qv A9 ?_
     refine Dz 98 ?_
     refine Dz 84 ?_
     refine AV ?_
     rw [show IU b c k=0 from lM (by omega) (by simpa using hc1) hop hna]
     rw [KS,TQ]
     exact xg [(100000,100000),(100001,100001),(100002,100002)] (h2:=by
      simp [Cm,Ar,Aa,AX,isLive,AZ,Bj,AA,DZ,BO,BN,CW,Al,BL,BP,BS,BQ,BR,ED,ZP,hr]
      exact ⟨Bc (L:=K5 c.AU k) rfl rfl (by first | rfl | (simp;done) | (simp [hdr];done) | (simp [K5,hr,hdr];done)) rfl (by first | rfl | (simp;done) | (simp [hdr];done) | (simp [K5,hr,hdr];done)) (fun _=>trivial),Bc (L:=Go.Ab.Heap.Ua h (H.bump c.Ad k)) rfl rfl (by first | rfl | (simp;done) | (simp [hdr];done) | (simp [K5,hr,hdr];done)) rfl (by first | rfl | (simp;done) | (simp [hdr];done) | (simp [K5,hr,hdr];done)) (fun _=>trivial)⟩)
end Go.Ab.Tryz
namespace Go.Ab
open Go.RowKit
section
variable {cx:Cx} {ops:Array Oper} {Q:Exit -> Act -> World -> Prop} {rest:List Oper} {o:Oper} {a:Act} {w w':World} {v:Value} {n:Nat}
theorem gV (hg:o.guard=none) (hnd:∀ c,o.op ≠ .defer c) (hr:(execOp a.eval o).run cx.P w=.ok (.value v) w') (k:wpListIn cx.fence n cx.P ops Q rest (a.put o.dst v) w'):wpListIn cx.fence n cx.P ops Q (o :: rest) a w:=by
 unfold wpListIn
 rw [if_pos (by simp [Region.wanted,hg])]
 refine ⟨fun _ _=>trivial,?_⟩
 rw [Oper.semAt_eq _ _ _ hnd,hr]
 exact k
theorem yX (hg:o.guard=none) (hnd:∀ c,o.op ≠ .defer c) (hr:(execOp a.eval o).run cx.P w=.ok .skip w') (k:wpListIn cx.fence n cx.P ops Q rest (a.put o.dst undef) w'):wpListIn cx.fence n cx.P ops Q (o :: rest) a w:=by
 unfold wpListIn
 rw [if_pos (by simp [Region.wanted,hg])]
 refine ⟨fun _ _=>trivial,?_⟩
 rw [Oper.semAt_eq _ _ _ hnd,hr]
 exact k
theorem Dx {d:Nat} (h:d < a.tmps.size):(a.put (some d) v).eval (.tmp d)=v:=by simp [Act.put,Act.eval,h]
theorem GV {d t:Nat} (h:t ≠ d):(a.put (some d) v).eval (.tmp t)=a.eval (.tmp t):=by
 simp [Act.put,Act.eval,Array.getElem?_setIfInBounds_ne (Ne.symm h)]
theorem D8 {d:Option Nat}:(a.put d v).tmps.size=a.tmps.size:=by cases d<;>simp [Act.put]
theorem Cz:a.put none v=a:=rfl
end
end Go.Ab
namespace Go.Ab.Tryz
open Go Go.Ab Go.Proofs Go.RowKit Go.Ab.Gi Go.Maps
abbrev fD (k c:Int):DataW Unit:=.agg [.lit (.int .i64 k),.lit (.int .i64 c)]
def bA:Value -> Option (DataW Unit × List MemPlace)
 | .agg a=>match a.toList with
  | [.int .i64 k,.int .i64 c]=>some (fD k c,[])
  | _=>none
 | _=>none
theorem JI (k c:Int):bA (.agg #[.int .i64 k,.int .i64 c])=some (fD k c,[]):=rfl
theorem fI {v:Value} {k c:Int} {ps:List MemPlace} (h:bA v=some (fD k c,ps)):v=.agg #[.int .i64 k,.int .i64 c]:=by
 unfold bA at h
 split at h
 ·rename_i a
  split at h
  ·rename_i k' c' e
   simp only [Option.some.injEq,Prod.mk.injEq,DataW.agg.injEq,List.cons.injEq,DataW.lit.injEq,Lit.int.injEq,and_true,true_and] at h
   obtain ⟨⟨rfl,rfl⟩,_⟩:=h
   congr 1
   exact Array.ext' (by rw [e])
  ·cases h
 ·cases h
abbrev kL (T:Tx):Lit:=.string T
theorem J2 (T:Tx):WideAt.IsKeyLit (kL T):=by first | exact trivial | exact ⟨_,rfl⟩ | simp [WideAt.IsKeyLit]
theorem LK {a b:Tx} (h:a ≠ b):kL a ≠ kL b:=fun e=>h (by injection e)
def fmD:DataW Unit:=(((((DataW.map []).put (kL nV) (fD 0 0)).put (kL nW) (fD 1 1)).put (kL Zl) (fD 2 2)).put (kL nU) (fD 3 2)).put (kL Zk) (fD 4 0)
theorem nE:IsMap (DataW.map []:DataW Unit):=isMap_empty
theorem qL (w:Tx):Maps.has fmD (kL w)=(Dm w).isSome /\ fmD.atKey (kL w) (fD 0 0)=fD (((Dm w).getD (0,0)).1:Nat) (((Dm w).getD (0,0)).2:Nat):=by
 unfold fmD Dm
 by_cases h5:w=Zk
 ·subst h5
  rw [has_put_same ((((nE.put _ _).put _ _).put _ _).put _ _) (J2 _),atKey_put_same ((((nE.put _ _).put _ _).put _ _).put _ _) (J2 _)]
  exact ⟨rfl,rfl⟩
 ·rw [has_put_other (LK h5),atKey_put_other (LK h5)]
  by_cases h4:w=nU
  ·subst h4
   rw [has_put_same (((nE.put _ _).put _ _).put _ _) (J2 _),atKey_put_same (((nE.put _ _).put _ _).put _ _) (J2 _)]
   exact ⟨rfl,rfl⟩
  ·rw [has_put_other (LK h4),atKey_put_other (LK h4)]
   by_cases h3:w=Zl
   ·subst h3
    rw [has_put_same ((nE.put _ _).put _ _) (J2 _),atKey_put_same ((nE.put _ _).put _ _) (J2 _)]
    exact ⟨rfl,rfl⟩
   ·rw [has_put_other (LK h3),atKey_put_other (LK h3)]
    by_cases h2:w=nW
    ·subst h2
     rw [has_put_same (nE.put _ _) (J2 _),atKey_put_same (nE.put _ _) (J2 _)]
     exact ⟨rfl,rfl⟩
    ·rw [has_put_other (LK h2),atKey_put_other (LK h2)]
     by_cases h1:w=nV
     ·subst h1
      rw [has_put_same nE (J2 _),atKey_put_same nE (J2 _)]
      exact ⟨rfl,rfl⟩
     ·rw [has_put_other (LK h1),atKey_put_other (LK h1),if_neg h1,if_neg h2,if_neg h3,if_neg h4,if_neg h5]
      exact ⟨rfl,rfl⟩
theorem OH {T:Tx} (h:T.length < 2000000):keyOf Tryz.prog 9 (.string (bs T))=some (kL T):=by
 have:=WideMaps.keyOf_string_mk (P:=Tryz.prog) Tryz.underlying9 (s:=bs T) (by rw [FD];unfold maxLen;omega)
 exact this
theorem xX (k c:Int) (w:World):(Instr.build 190 #[(0,.int .i64 k),(1,.int .i64 c)]).run Tryz.prog w=.ok (.agg #[.int .i64 k,.int .i64 c]) w:=by kernel_rfl
theorem nO (w:World):(zeroValue 190).run Tryz.prog w=.ok (.agg #[.int .i64 0,.int .i64 0]) w:=Tryz.zeroValue190 w
abbrev kfD (w:Tx):DV:=.agg [.int .i64 (((Dm w).getD (0,0)).1:Nat),.int .i64 (((Dm w).getD (0,0)).2:Nat)]
section
variable {a:Act} {d:Option Nat} {ty:TypeId} {p:String} {af:Array Edge} {gd:Option (Nat × Bool)} {w w':World} {b j:Nat} {x y:Operand} {v:Value}
theorem uQ {P:Program} {v0 v1 u:Value} (h:(Instr.build 190 #[(0,v0),(1,v1)]).run P w=.ok u w):(execOp a.eval ⟨d,.build 190 #[(0,.const v0),(1,.const v1)],ty,p,af,gd⟩).run P w=.ok (.value u) w:=by
 unfold execOp
 simp only [Sem.run_bind,List.map_toArray,List.map_cons,List.map_nil,Act.eval]
 rw [h];rfl
theorem Vp {k c:Int}:(execOp a.eval ⟨d,.build 190 #[(0,.const (.int .i64 k)),(1,.const (.int .i64 c))],ty,p,af,gd⟩).run Tryz.prog w=.ok (.value (.agg #[.int .i64 k,.int .i64 c])) w:=uQ (xX k c w)
theorem Vo {key val:Value} (h1:a.eval (.tmp 15)=.map (some b)) (h2:a.eval (.tmp j)=val) (r:(Instr.mapUpdate 192 (.map (some b)) key val).run Tryz.prog w=.ok () w'):(execOp a.eval ⟨d,.insert 192 (.tmp 15) (.const key) (.tmp j),ty,p,af,gd⟩).run Tryz.prog w=.ok .skip w':=by
 show (do Instr.mapUpdate 192 (a.eval (.tmp 15)) key (a.eval (.tmp j));pure Next.skip:Sem Next).run Tryz.prog w=_
 simp only [Sem.run_bind,h1,h2,r,Result.andThen_ok,Sem.run_pure]
theorem uP {o:Op} {P:Program} (h:o=.move x \/ o=.assign x) (hx:a.eval x=v):(execOp a.eval ⟨d,o,ty,p,af,gd⟩).run P w=.ok (.value v) w:=by
 subst hx
 rcases h with rfl | rfl<;>rfl
theorem x_ix {ad:Addr} {n cap:Nat} (hx:a.eval x=.slice (some ad) n cap) (hn:0 < n):(execOp a.eval ⟨d,.indexAddr 30 x (.const (.int .i64 0)),ty,p,af,gd⟩).run Tryz.prog w=.ok (.value (.pointer (some ad))) w:=by
 show (do pure (Next.value (<- Instr.indexAt 30 (a.eval x) (.int .i64 0))):Sem Next).run Tryz.prog w=_
 rw [hx]
 simp only [Sem.run_bind,OJ CS Dh ad n cap .i64 0 (by omega) (by simpa using hn),Result.andThen_ok,Sem.run_pure]
 rfl
theorem x_ld {b o:Nat} {u:Value} (hx:a.eval x=.pointer (some ⟨b,o,none⟩)) (hc:w.cell? ⟨b,o,none⟩=some u):(execOp a.eval ⟨d,.load 9 x,ty,p,af,gd⟩).run Tryz.prog w=.ok (.value u) w:=by
 show (do pure (Next.value (<- Instr.loadAt 9 (a.eval x))):Sem Next).run Tryz.prog w=_
 rw [hx]
 simp only [Sem.run_bind,Iw MK b o w u hc,Result.andThen_ok,Sem.run_pure]
theorem x_lk {mp key u:Value} (h1:a.eval x=mp) (h2:a.eval y=key) (r:(Instr.lookup 192 mp key true).run Tryz.prog w=.ok u w):(execOp a.eval ⟨d,.lookup 192 x y true,ty,p,af,gd⟩).run Tryz.prog w=.ok (.value u) w:=by
 show (do pure (Next.value (<- Instr.lookup 192 (a.eval x) (a.eval y) true)):Sem Next).run Tryz.prog w=_
 simp only [Sem.run_bind,h1,h2,r,Result.andThen_ok,Sem.run_pure]
end
set_option maxHeartbeats 1000000 in
theorem zB {cx:Cx} {rest:List Oper} {K:Exit -> St -> Prop} {l:List (Nat × SV)} {m:List (Nat × Nat × Option Au)} {ws:List Tx} {wd:Tx} {id:Nat}
  {t1 t2 t3 t4 t5 t6 t7 t8 t9 t10 t11 t12 t13 t14 t15 t16 t17:TypeId} {p1 p2 p3 p4 p5 p6 p7 p8 p9 p10 p11 p12 p13 p14 p15 p16 p17:String} {a1 a2 a3 a4 a5 a6 a7 a8 a9 a10 a11 a12 a13 a14 a15 a16 a17:Array Edge}
  (hlo:True) (h4:lk l 4=.dv (.list (ws.map Cg))) (h0:ws[0]?=some wd) (hw:wd.length < 2000000) (hg:cx.Good) (hP:cx.P=Tryz.prog) (hn:cx.n=84)
  (k:Chain cx (⟨some 15,.makeMap 192 none,t1,p1,a1,none⟩ :: ⟨some 16,.build 190 #[(0,.const (.int .i64 0)),(1,.const (.int .i64 0))],t2,p2,a2,none⟩ :: ⟨none,.insert 192 (.tmp 15) (.const (.string ⟨#[100,97,121]⟩)) (.tmp 16),t3,p3,a3,none⟩ ::
   ⟨some 17,.build 190 #[(0,.const (.int .i64 1)),(1,.const (.int .i64 1))],t4,p4,a4,none⟩ :: ⟨none,.insert 192 (.tmp 15) (.const (.string ⟨#[99,117,116]⟩)) (.tmp 17),t5,p5,a5,none⟩ ::
   ⟨some 18,.build 190 #[(0,.const (.int .i64 2)),(1,.const (.int .i64 2))],t6,p6,a6,none⟩ :: ⟨none,.insert 192 (.tmp 15) (.const (.string ⟨#[108,111,97,100]⟩)) (.tmp 18),t7,p7,a7,none⟩ ::
   ⟨some 19,.build 190 #[(0,.const (.int .i64 3)),(1,.const (.int .i64 2))],t8,p8,a8,none⟩ :: ⟨none,.insert 192 (.tmp 15) (.const (.string ⟨#[119,101,116]⟩)) (.tmp 19),t9,p9,a9,none⟩ ::
   ⟨some 20,.build 190 #[(0,.const (.int .i64 4)),(1,.const (.int .i64 0))],t10,p10,a10,none⟩ :: ⟨none,.insert 192 (.tmp 15) (.const (.string ⟨#[115,104,117,116]⟩)) (.tmp 20),t11,p11,a11,none⟩ ::
   ⟨some 21,.move (.tmp 15),t12,p12,a12,none⟩ :: ⟨some 22,.move (.tmp 4),t13,p13,a13,none⟩ :: ⟨some 23,.indexAddr 30 (.tmp 22) (.const (.int .i64 0)),t14,p14,a14,none⟩ :: ⟨some 24,.load 9 (.tmp 23),t15,p15,a15,none⟩ ::
   ⟨some 25,.lookup 192 (.tmp 21) (.tmp 24) true,t16,p16,a16,none⟩ :: ⟨some 14,.move (.tmp 25),t17,p17,a17,none⟩ :: rest).toArray rest ⟨lk ((14,.Em [.dv (kfD wd),.dv (.bool (Dm wd).isSome)]) :: (25,.dead) :: (24,.dead) :: (23,.dead) :: (22,.dead) :: (21,.dead) :: (20,.dead) :: (19,.dead) :: (18,.dead) :: (17,.dead) :: (16,.dead) :: (15,.dead) :: l),AA m⟩ fun S'=>K .normal S') :
  EF cx (.region id (⟨some 15,.makeMap 192 none,t1,p1,a1,none⟩ :: ⟨some 16,.build 190 #[(0,.const (.int .i64 0)),(1,.const (.int .i64 0))],t2,p2,a2,none⟩ :: ⟨none,.insert 192 (.tmp 15) (.const (.string ⟨#[100,97,121]⟩)) (.tmp 16),t3,p3,a3,none⟩ ::
   ⟨some 17,.build 190 #[(0,.const (.int .i64 1)),(1,.const (.int .i64 1))],t4,p4,a4,none⟩ :: ⟨none,.insert 192 (.tmp 15) (.const (.string ⟨#[99,117,116]⟩)) (.tmp 17),t5,p5,a5,none⟩ ::
   ⟨some 18,.build 190 #[(0,.const (.int .i64 2)),(1,.const (.int .i64 2))],t6,p6,a6,none⟩ :: ⟨none,.insert 192 (.tmp 15) (.const (.string ⟨#[108,111,97,100]⟩)) (.tmp 18),t7,p7,a7,none⟩ ::
   ⟨some 19,.build 190 #[(0,.const (.int .i64 3)),(1,.const (.int .i64 2))],t8,p8,a8,none⟩ :: ⟨none,.insert 192 (.tmp 15) (.const (.string ⟨#[119,101,116]⟩)) (.tmp 19),t9,p9,a9,none⟩ ::
   ⟨some 20,.build 190 #[(0,.const (.int .i64 4)),(1,.const (.int .i64 0))],t10,p10,a10,none⟩ :: ⟨none,.insert 192 (.tmp 15) (.const (.string ⟨#[115,104,117,116]⟩)) (.tmp 20),t11,p11,a11,none⟩ ::
   ⟨some 21,.move (.tmp 15),t12,p12,a12,none⟩ :: ⟨some 22,.move (.tmp 4),t13,p13,a13,none⟩ :: ⟨some 23,.indexAddr 30 (.tmp 22) (.const (.int .i64 0)),t14,p14,a14,none⟩ :: ⟨some 24,.load 9 (.tmp 23),t15,p15,a15,none⟩ ::
   ⟨some 25,.lookup 192 (.tmp 21) (.tmp 24) true,t16,p16,a16,none⟩ :: ⟨some 14,.move (.tmp 25),t17,p17,a17,none⟩ :: rest).toArray false) K ⟨lk l,AA m⟩:=by
 intro a w hs
 refine wpIn_region_list ?_
 obtain ⟨μ,h⟩:=hs
 have hsz:a.tmps.size=84:=by rw [h.size,hn]
 have tQ:=h.slot 4
 have ZB:Bn w (XX cx (AA m) μ) (.list (ws.map Cg)) (a.tmps.getD 4 undef):=by
  rw [show (⟨lk l,AA m⟩:St).F 4=.dv (.list (ws.map Cg)) from h4] at tQ
  simpa only [AJ] using tQ
 have ht:=Tryz.underlying192
 have K9:=string_keyed (P:=Tryz.prog) Tryz.underlying9
 have eP:cx.P=Tryz.prog:=hP
 have nd:∀ {o:Op},(∀ c,o ≠ .defer c) -> ∀ c,o ≠ .defer c:=fun h=>h
 -- the map is made and filled
 have hm0:=World.ownsMap_made w Tryz.prog 9 bA
 obtain ⟨w1,r1,m1,g1⟩:=hm0.update K9 ht (by unfold maxLen;omega) (OH (T:=nV) (by decide)) (JI 0 0)
 obtain ⟨w2,r2,m2,g2⟩:=m1.update K9 ht (by unfold maxLen;omega) (OH (T:=nW) (by decide)) (JI 1 1)
 obtain ⟨w3,r3,m3,g3⟩:=m2.update K9 ht (by unfold maxLen;omega) (OH (T:=Zl) (by decide)) (JI 2 2)
 obtain ⟨w4,r4,m4,g4⟩:=m3.update K9 ht (by unfold maxLen;omega) (OH (T:=nU) (by decide)) (JI 3 2)
 obtain ⟨w5,r5,m5,g5⟩:=m4.update K9 ht (by unfold maxLen;omega) (OH (T:=Zk) (by decide)) (JI 4 0)
 have hb:Below w.heap.size w w5:=by
  have b0:=(Below.refl w.heap.size w).alloc (Nat.le_refl _) (.map #[] 0)
  have hk:∀ k,some w.heap.size=some k -> w.heap.size <= k:=fun k e=>by cases e;exact Nat.le_refl _
  have b1:=b0.grown g1 b0.size hk
  have b2:=b1.grown g2 b1.size hk
  have b3:=b2.grown g3 b2.size hk
  have b4:=b3.grown g4 b3.size hk
  exact b4.grown g5 b4.size hk
 obtain ⟨v,ps,rl,hv⟩:=m5.look_ok K9 ht (nO w5) (JI 0 0) (OH hw)
 obtain ⟨gY,lk2⟩:=qL wd
 have hv2:v=.agg #[.int .i64 (((Dm wd).getD (0,0)).1:Nat),.int .i64 (((Dm wd).getD (0,0)).2:Nat)]:=by
  refine fI (ps:=ps) ?_
  rw [hv]
  exact congrArg (fun d=>some (d,ps)) lk2
 have hok:Maps.has fmD (kL wd)=(Dm wd).isSome:=gY
 -- the word
 generalize hx:a.tmps.getD 4 undef=x4 at ZB
 have hf:flat (ws.map Cg)=ws.map Cg:=GU fun _=>rfl
 have hlen:0 < ws.length:=(List.getElem?_eq_some_iff.1 h0).1
 obtain ⟨b4,o4,c4,rfl,hcell⟩:∃ (b o cap:Nat),x4=.slice (some ⟨b,o,none⟩) ws.length cap /\ w5.cell? ⟨b,o,none⟩=some (.string (bs wd)):=by
  generalize hD:ws.map Cg=D at ZB
  cases ZB with
  | Cq ao cap =>
   have:ws=[]:=by
    cases ws with
    | nil=>rfl
    | cons q l=>simp at hD
   subst this;simp at hlen
  | list _ b off cap C8 u q1 q2 q3 q4 q5 q6 =>
   have e0:(flat D)[0]?=some (Cg wd):=by rw [<- hD,hf];simp [h0]
   have e1:=q5 0 _ e0
   have e2:=G9 (q6 0 _ e0)
   refine ⟨b,off,cap,by rw [<- hD];simp,?_⟩
   rw [hb.cell (p:=⟨b,off,none⟩) q2]
   rw [Nat.add_zero,e2] at e1
   exact e1
 have hev4:a.eval (.tmp 4)=.slice (some ⟨b4,o4,none⟩) ws.length c4:=hx
 show wpListIn cx.fence 0 cx.P _ _ (_ :: _) a w
 refine gV (v:=.map (some w.heap.size)) (w':=w.alloc (.map #[] 0)) rfl (fun c=>by nofun) (by rw [eP];rfl) ?_
 refine gV rfl (fun c=>by nofun) (by rw [eP];exact Vp) ?_
 refine yX rfl (fun c=>by nofun) (by rw [eP];exact Vo (by simp [Dx,GV,D8,Cz,hsz]) (by simp [Dx,GV,D8,Cz,hsz]) r1) ?_
 refine gV rfl (fun c=>by nofun) (by rw [eP];exact Vp) ?_
 refine yX rfl (fun c=>by nofun) (by rw [eP];exact Vo (by simp [Dx,GV,D8,Cz,hsz]) (by simp [Dx,GV,D8,Cz,hsz]) r2) ?_
 refine gV rfl (fun c=>by nofun) (by rw [eP];exact Vp) ?_
 refine yX rfl (fun c=>by nofun) (by rw [eP];exact Vo (by simp [Dx,GV,D8,Cz,hsz]) (by simp [Dx,GV,D8,Cz,hsz]) r3) ?_
 refine gV rfl (fun c=>by nofun) (by rw [eP];exact Vp) ?_
 refine yX rfl (fun c=>by nofun) (by rw [eP];exact Vo (by simp [Dx,GV,D8,Cz,hsz]) (by simp [Dx,GV,D8,Cz,hsz]) r4) ?_
 refine gV rfl (fun c=>by nofun) (by rw [eP];exact Vp) ?_
 refine yX rfl (fun c=>by nofun) (by rw [eP];exact Vo (by simp [Dx,GV,D8,Cz,hsz]) (by simp [Dx,GV,D8,Cz,hsz]) r5) ?_
 refine gV (w':=w5) (v:=.map (some w.heap.size)) rfl (fun c=>by nofun) (uP (.inl rfl) (by simp [Dx,GV,D8,Cz,hsz])) ?_
 refine gV (w':=w5) (v:=.slice (some ⟨b4,o4,none⟩) ws.length c4) rfl (fun c=>by nofun) (uP (.inl rfl) (by simp [Dx,GV,D8,Cz,hsz,hev4])) ?_
 refine gV (w':=w5) (v:=.pointer (some ⟨b4,o4,none⟩)) rfl (fun c=>by nofun) (by rw [eP];exact x_ix (cap:=c4) (by simp [Dx,GV,D8,Cz,hsz]) hlen) ?_
 refine gV (w':=w5) (v:=.string (bs wd)) rfl (fun c=>by nofun) (by rw [eP];exact x_ld (by simp [Dx,GV,D8,Cz,hsz]) hcell) ?_
 refine gV (w':=w5) (v:=.tuple #[v,.bool (Dm wd).isSome]) rfl (fun c=>by nofun) (by rw [eP];exact x_lk (mp:=.map (some w.heap.size)) (key:=.string (bs wd)) (by simp [Dx,GV,D8,Cz,hsz]) (by simp [Dx,GV,D8,Cz,hsz]) (by rw [<- hok];exact rl)) ?_
 refine gV (w':=w5) (v:=.tuple #[v,.bool (Dm wd).isSome]) rfl (fun c=>by nofun) (uP (.inl rfl) (by simp [Dx,GV,D8,Cz,hsz])) ?_
 obtain ⟨μ',i1,_⟩:=Lb h hb (Y:=XX cx (AA m) μ) (fun b hb=>hb) (res:=.one (.dv (.bool true))) (v:=.bool true) (La (.bool true)) 0
 have i2:BJ cx ⟨lk l,AA m⟩ a w5 μ':=i1
 have ss:∀ {l:List (Nat × SV)} {a:Act} (d:Nat) (r:SV) (v:Value),d < cx.n -> AJ w5 (AA m) μ' (XX cx (AA m) μ') r v -> BJ cx ⟨lk l,AA m⟩ a w5 μ' -> BJ cx ⟨lk ((d,r) :: l),AA m⟩ (a.put (some d) v) w5 μ':=fun d r v hd hr hh=>by
  have:=hh.set hd (r:=r) (v:=v) hr
  rw [<- EY];exact this
 have dd:∀ {l:List (Nat × SV)} {a:Act} (d:Nat) (v:Value),d < 84 -> BJ cx ⟨lk l,AA m⟩ a w5 μ' -> BJ cx ⟨lk ((d,.dead) :: l),AA m⟩ (a.put (some d) v) w5 μ':=fun d v hd hh =>
  ss d .dead v (by omega) (by simp only [AJ]) hh
 refine Nf hg (fun S a w h1 h2=>.inl ⟨S,h1,h2⟩) rest _ _ _ ⟨μ',?_⟩ k
 simp only [Cz]
 refine ss 14 _ _ (by omega) ?_ (dd _ _ (by decide) (dd _ _ (by decide) (dd _ _ (by decide) (dd _ _ (by decide) (dd _ _ (by decide) (dd _ _ (by decide) (dd _ _ (by decide) (dd _ _ (by decide) (dd _ _ (by decide) (dd _ _ (by decide) (dd _ _ (by decide) i2)))))))))))
 refine ⟨[v,.bool (Dm wd).isSome],rfl,?_⟩
 subst hv2
 refine ⟨?_,?_,trivial⟩
 ·simp only [AJ]
  refine .agg _ _ rfl fun j c hj=>?_
  match j,hj with
  | 0,hj=>cases hj;exact .int _ _
  | 1,hj=>cases hj;exact .int _ _
 ·simp only [AJ];exact .bool _
end Go.Ab.Tryz
