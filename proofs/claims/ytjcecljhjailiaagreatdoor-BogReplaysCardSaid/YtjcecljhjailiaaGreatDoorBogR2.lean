/- The functions of the bog laws: cuttings, part 51. The walks are written by wip/gen/gw.py. -/
import Derived.Test.YtjcecljhjailiaaGreatDoorBogG27
import Derived.Test.YtjcecljhjailiaaGreatDoorBogG21
import Derived.Test.YtjcecljhjailiaaGreatDoorBogG07
set_option linter.all false
namespace Go.Ab.Tryz
open Go Go.Ab Go.Proofs Go.Ab.Ci Go.Ab.Gx
open Go.Ab.Heap (Az Ah BZ)
open Go.Ab.Heap (Hp Et validate sm)
theorem rH {b:Bg} {h:Hp} {n:Int} {c:Cs} (F:Fn b h n) (ok:C8 b h n c):c.F3 < 68719476736:=bR F.mn (ok.F3 n)
set_option maxHeartbeats 1000000 in
theorem f76 (b:Bg) (h:Hp) (n:Int) (c:Cs) (r k:Nat) (F:Fn b h n) (ok:C8 b h n c) (hr:r < 1000) (hk:k < 1000):Aw Tryz.prog 76 [.pt 100000 0 0,.dv (i64 (r:Int)),.dv (i64 (k:Int))] (Ba (four b h n c 100004 100005 100006)) ⟨[.dv (i64 (GH b c r k))],Ba (four b h n (fB (GH b c r k) (NQ b c r k) c) 100004 100005 100006)⟩:=by
 have ZG:=rH F ok
 have uM:=ok.hol.len
 have hbd:=ok.hol.bd
 have Uz:=F.bg.n6
 have hd4:=F.bg.d4
 refine DC Tryz.func76 rfl rfl (by rw [Tryz.ntmps76];simp) fun cx hP hn hg=>?_
 rw [Tryz.ntmps76] at hn
 refine Bj ?_
 refine sg ?_
 refine qv A9 ?_
 refine AJ ?_
 refine sg ?_
 iterate 2 refine qv A8 ?_
 refine qv BR ?_
 refine qv (AB Te) ?_
 refine qv (AB GK) ?_
 refine qv (AL Ak Br) ?_
 refine qv Df ?_
 refine qx A8 (fun Ke=>?_) (fun Ke=>?_)
 ·try simp at Ke
  iterate 7 refine qk ?_
  refine qv Ai ?_
  refine Dw (hb:=by first | rfl | simp | simp_all) (ht:=?_)
  refine sg ?_
  refine qv A9 ?_
  refine AP ?_
  rw [show GH b c r k=4 from XE (by omega)]
  rw [Ew (by decide)]
  exact xg [(100000,100000),(100001,100001),(100002,100002),(100003,100003)]
 ·try simp at Ke
  iterate 2 refine qv A8 ?_
  refine qv BR ?_
  refine qv (AB Te) ?_
  refine qv (AB DR) ?_
  refine qv (AL Ak Br) ?_
  refine qv Df ?_
  refine qv Ai ?_
  refine cd (fun hc0=>?_) (fun hc0=>?_)
  ·try simp at hc0
   refine sg ?_
   refine qv A9 ?_
   refine AP ?_
   rw [show GH b c r k=4 from XE (by omega)]
   rw [Ew (by decide)]
   exact xg [(100000,100000),(100001,100001),(100002,100002),(100003,100003)]
  ·try simp at hc0
   refine AY ?_
   refine AJ ?_
   refine sg ?_
   refine qv A8 ?_
   refine qv BR ?_
   refine qv (AB Kj) ?_
   refine qv (AL Av Bl) ?_
   have hkt:k < c.AU.length:=by omega
   have hgt:=Ah hkt
   have hgb:=hbd k hkt
   refine qv A8 ?_
   refine qv (CB Ap Ak) ?_
   first | refine qv (EG Ak Br) ?_ | refine qv (AL Ak Br) ?_
   refine qv A8 ?_
   refine qv IU ?_
   refine cd (fun hc1=>?_) (fun hc1=>?_)
   ·try simp at hc1
    refine sg ?_
    refine qv A9 ?_
    refine AP ?_
    rw [show GH b c r k=8 from nX (by omega) (by omega)]
    rw [Ew (by decide)]
    exact xg [(100000,100000),(100001,100001),(100002,100002),(100003,100003)]
   ·try simp at hc1
    refine AY ?_
    refine AJ ?_
    refine AJ ?_
    refine rd mixed ?_
    refine zv A8 ?_
    refine zv BR ?_
    refine zv (AB Lv) ?_
    refine zv (AL Ak Br) ?_
    have hsb:=SI F.bg (r:=r) (k:=k) (by omega) (by omega)
    have hsl:=Qd F.bg (r:=r) (k:=k) (by omega) (by omega)
    unfold aU at hsl
    iterate 3 refine zv A8 ?_
    refine GA (R:=[100000]) (f115 b h n r k (by omega) (by omega) (by omega)) ?_ (ha:=(CG (Rn (by (first | (simp only [AA,reduceIte,Nat.reduceEqDiff]<;>rfl) | (simp [L8,AA]<;>rfl)))) (CG Bh (CG Bh EH))))
    refine GA (R:=[]) (f116 c.F3 (r * b.worth.length+k) ZG (by omega)) ?_
    refine ⟨by rfl,?_⟩
    refine cd (fun hc2=>?_) (fun hc2=>?_)
    ·skip
     refine sg ?_
     refine qv A9 ?_
     refine AP ?_
     rw [show GH b c r k=5 from nY (by omega) (by omega) (by simpa using hc2)]
     rw [Ew (by decide)]
     exact xg [(100000,100000),(100001,100001),(100002,100002),(100003,100003)]
    ·skip
     refine AY ?_
     refine AJ ?_
     refine rd mixed ?_
     refine zv A8 ?_
     refine zv BR ?_
     refine zv (AB Lv) ?_
     refine zv (AL Ak Br) ?_
     iterate 3 refine zv A8 ?_
     refine GA (R:=[100000]) (f115 b h n r k (by omega) (by omega) (by omega)) ?_ (ha:=(CG (Rn (by (first | (simp only [AA,reduceIte,Nat.reduceEqDiff]<;>rfl) | (simp [L8,AA]<;>rfl)))) (CG Bh (CG Bh EH))))
     refine zv (NP gG XG) ?_
     refine zv (EP (r * b.worth.length+k)) ?_
     refine zv (Dc (ha:=by omega) (hb:=by omega)) ?_
     refine zv BR ?_
     refine zv (AB Lv) ?_
     refine zs (CK Ak) ?_
     refine ⟨by rfl,?_⟩
     refine sg ?_
     refine qv A9 ?_
     refine AP ?_
     rw [show GH b c r k=0 from nW (by omega) (by omega) (by simpa using hc2)]
     rw [Jz]
     exact xg [(100000,100000),(100001,100001),(100002,100002),(100003,100003)] (h2:=by simp [CV,Al,Ae,Aa,isLive,Ac,Ba,AA,Ch,BK,BJ,CR,Af,BI,BL,BO,BM,BN,Dv,NQ,Qt])
end Go.Ab.Tryz
