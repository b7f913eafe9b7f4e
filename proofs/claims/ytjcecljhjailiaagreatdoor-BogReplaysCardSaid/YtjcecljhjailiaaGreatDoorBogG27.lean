/- BogR1. -/
import Derived.Test.YtjcecljhjailiaaGreatDoorBogG26
import Derived.Test.YtjcecljhjailiaaGreatDoorBogG07
set_option linter.all false
namespace Go.Ab.Tryz
open Go Go.Ab Go.Proofs Go.Ab.Ci Go.Ab.Gx
open Go.Ab.Heap (Az Ah BZ)
open Go.Ab.Heap (Hp Et validate sm)
abbrev rfC (b:Bg) (h:Hp) (n:Int) (c:Cs):List SV:=[.dv (.list (b.worth.map ints)),.dv (.list (h.links.map ints)),.dv (ints h.ground),.dv (i64 (b.dep:Int)),.dv (i64 (b.worth.length:Int)),.dv (i64 n),
 .dv (i64 c.day),.dv (i64 (c.F3:Int)),.dv (i64 c.Ei),.dv (i64 c.cut),.dv (i64 c.loaded),.dv (i64 (Qt c)),.sl 100001 0 0 c.AU.length,.sl 100002 0 0 c.AX.length,.dv (.bool c.shut),.sl 100003 0 0 c.orders.length]
abbrev wR (b:Bg) (h:Hp) (n:Int) (c:Cs) (st:Nat):BG:=⟨rfC b h n c,0,67,st,false⟩
abbrev rowIs (L:List Int) (st:Nat):BG:=⟨L.map fun q=>.dv (.int .i64 q),1,3,st,true⟩
abbrev four (b:Bg) (h:Hp) (n:Int) (c:Cs) (s1 s2 s3:Nat):List (Nat × BG):=[(100000,wR b h n c 100003),(100001,rowIs c.AU s1),(100002,rowIs c.AX s2),(100003,Cy c.orders s3)]
abbrev yH (b:Bg) (h:Hp) (n:Int):List DV:=[.list (b.worth.map ints),.list (h.links.map ints),ints h.ground,i64 (b.dep:Int),i64 (b.worth.length:Int),i64 n]
theorem Rn {M:Nat -> Nat × Option BG} {b:Bg} {h:Hp} {n:Int} {t g:Nat} {r:List SV} {st:Nat} (hM:M t=(g,some ⟨(yH b h n).map .dv ++ r,0,67,st,false⟩)):GQ M (.pt t g 0) (.DU (yH b h n)):=by
 refine .pt t g 0 _ _ (fun j=>.dv ((yH b h n).getD j default)) hM trivial (fun j c' hj=>?_) fun j c' hj=>?_
 ·have hl:=(List.getElem?_eq_some_iff.1 hj).1
  have e:(yH b h n).getD j default=c':=by simp [hj]
  rw [e]
  show ((yH b h n).map SV.dv ++ r)[0+j]?=_
  rw [Nat.zero_add,List.getElem?_append_left (by simpa using hl),List.getElem?_map,hj]
  rfl
 ·have:(yH b h n).getD j default=c':=by simp [hj]
  rw [this]
  exact .dv c' trivial
theorem f115 (b:Bg) (h:Hp) (n:Int) (r k:Nat) (hn:b.worth.length <= 1000) (hr:r <= 1000) (hk:k <= 1000):AR Tryz.prog 115 [.DU (yH b h n),i64 (r:Int),i64 (k:Int)] (.one (.dv (i64 ((r * b.worth.length+k:Nat):Int)))):=by
 have hm:r * b.worth.length <= 1000 * 1000:=Nat.mul_le_mul hr hn
 refine Bu Tryz.func115 rfl rfl (by rw [Tryz.ntmps115];simp) fun cx hP hn hg=>?_
 rw [Tryz.ntmps115] at hn
 rw [Bq,Bp]
 simp only [List.nil_append,List.append_nil,List.cons_append,BF,Nat.reduceAdd]
 refine sg ?_
 refine qv A9 ?_
 refine sg ?_
 iterate 2 refine qv A8 ?_
 refine qv BR ?_
 first | refine qv (jM Te) ?_ | refine qv (AB Te) ?_
 first | refine qv (jM DR) ?_ | refine qv (AB DR) ?_
 first | refine qv (Bb Ak Br) ?_ | refine qv (AL Ak Br) ?_
 refine qv T9 ?_
 refine qv A8 ?_
 refine qv Dm ?_
 refine qv A9 ?_
 refine AP ?_
 exact x1 (hr:=(CW))
set_option maxHeartbeats 1000000 in
theorem f75 (b:Bg) (h:Hp) (n:Int) (c:Cs) (i m:Nat) (F:Fn b h n) (ok:C8 b h n c) (hi:i < 1000) (hm:m < 1000):Aw Tryz.prog 75 [.pt 100000 0 0,.dv (i64 (i:Int)),.dv (i64 (m:Int))] (Ba (four b h n c 100004 100005 100006)) ⟨[.dv (i64 (EW c i m))],Ba (four b h n (fB (EW c i m) (I6 c i m) c) 100004 100005 100006)⟩:=by
 have hld:=ok.ldb
 have hl0:=ok.tK
 have hmo:=ok.jK
 have htl:=ok.Mj
 have h5:=F.vh.n5
 have htb:∀ j,j < c.AX.length -> 0 <= Az c.AX j /\ Az c.AX j <= 30:=fun j hj=>(ok.t30 F.vh).bd j (by omega)
 refine DC Tryz.func75 rfl rfl (by rw [Tryz.ntmps75];simp) fun cx hP hn hg=>?_
 rw [Tryz.ntmps75] at hn
 refine Bj ?_
 refine sg ?_
 refine qv A9 ?_
 refine AJ ?_
 refine sg ?_
 iterate 2 refine qv A8 ?_
 refine qv BR ?_
 refine qv (AB Hr) ?_
 refine qv (AL Av Bl) ?_
 refine qv (Cg CZ) ?_
 refine qv Df ?_
 refine cd (fun hc0=>?_) (fun hc0=>?_)
 ·try simp at hc0
  refine sg ?_
  refine qv A9 ?_
  refine AP ?_
  rw [show EW c i m=4 from fP (by omega)]
  rw [Ew (by decide)]
  exact xg [(100000,100000),(100001,100001),(100002,100002),(100003,100003)]
 ·try simp at hc0
  refine AY ?_
  refine AJ ?_
  refine sg ?_
  refine qv A8 ?_
  refine qv Bv ?_
  refine cd (fun hc1=>?_) (fun hc1=>?_)
  ·try simp at hc1
   refine sg ?_
   refine qv A9 ?_
   refine AP ?_
   rw [show EW c i m=1 from fQ (by omega) (by omega)]
   rw [Ew (by decide)]
   exact xg [(100000,100000),(100001,100001),(100002,100002),(100003,100003)]
  ·try simp at hc1
   refine AY ?_
   refine AJ ?_
   refine sg ?_
   refine qv A8 ?_
   refine qv BR ?_
   refine qv (AB Hr) ?_
   refine qv (AL Av Bl) ?_
   have hit:i < c.AX.length:=by omega
   have hgt:=Ah hit
   have hgb:=htb i hit
   have hgr:Qt (I6 c i m)=Qt c:=by
    unfold Qt I6
    simp only [List.length_set]
    rw [Go.Ab.Heap.LZ rfl hit];omega
   refine qv A8 ?_
   refine qv (CB Ap Ak) ?_
   first | refine qv (EG Ak Br) ?_ | refine qv (AL Ak Br) ?_
   refine qv A8 ?_
   refine qv BQ ?_
   refine cd (fun hc2=>?_) (fun hc2=>?_)
   ·try simp at hc2
    refine sg ?_
    refine qv A9 ?_
    refine AP ?_
    rw [show EW c i m=11 from Z7 (by omega) (by omega) (by omega)]
    rw [Ew (by decide)]
    exact xg [(100000,100000),(100001,100001),(100002,100002),(100003,100003)]
   ·try simp at hc2
    refine AY ?_
    refine sg ?_
    refine qv A8 ?_
    refine qv BR ?_
    refine qv (AB Hr) ?_
    refine qv (AL Av Bl) ?_
    refine qv A8 ?_
    refine qv (CB Ap Ak) ?_
    first | refine qv (EG Ak Br) ?_ | refine qv (AL Ak Br) ?_
    refine qv A8 ?_
    refine qv FW ?_
    refine qv (CB Ap Ak) ?_
    first | refine qs (Gp Ak) ?_ | refine qs (CK Ak) ?_
    refine sg ?_
    refine qv A8 ?_
    refine qv BR ?_
    refine qv (AB cu) ?_
    refine qv (AL Ak Br) ?_
    refine qv A8 ?_
    refine qv Am ?_
    refine qv BR ?_
    refine qv (AB cu) ?_
    refine qs (CK Ak) ?_
    refine sg ?_
    refine qv A8 ?_
    refine qv BR ?_
    refine qv (AB Nf) ?_
    refine qv (AL Ak Br) ?_
    refine qv A8 ?_
    refine qv Am ?_
    refine qv BR ?_
    refine qv (AB Nf) ?_
    refine qs (CK Ak) ?_
    refine sg ?_
    refine qv A9 ?_
    refine AP ?_
    rw [show EW c i m=0 from fO (by omega) (by omega) (by omega)]
    rw [Jz]
    exact xg [(100000,100000),(100001,100001),(100002,100002),(100003,100003)] (h2:=by simp [CV,Al,Ae,Aa,isLive,Ac,Ba,AA,Ch,BK,BJ,CR,Af,BI,BL,BO,BM,BN,Dv,hgr];simp [CV,Al,Ae,Aa,isLive,Ac,Ba,AA,Ch,BK,BJ,CR,Af,BI,BL,BO,BM,BN,Dv,I6])
end Go.Ab.Tryz
