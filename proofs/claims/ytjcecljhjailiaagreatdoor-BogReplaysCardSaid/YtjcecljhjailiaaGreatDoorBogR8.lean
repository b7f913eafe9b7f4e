/- The functions of the bog laws: cuttings, part 65. The walks are written by wip/gen/gw.py. -/
import Derived.Test.YtjcecljhjailiaaGreatDoorBogR7
import Derived.Test.YtjcecljhjailiaaGreatDoorBogG25
import Derived.Test.YtjcecljhjailiaaGreatDoorBogR3
import Derived.Test.YtjcecljhjailiaaGreatDoorBogR4
import Derived.Test.YtjcecljhjailiaaGreatDoorBogR5
import Derived.Test.YtjcecljhjailiaaGreatDoorBogG07
set_option linter.all false
namespace Go.Ab.Tryz
open Go Go.Ab Go.Proofs Go.Ab.Ci Go.Ab.Gx
open Go.Ab.Heap (Az Ah BZ)
open Go.Ab.Heap (Hp Et validate sm)
theorem Sq {T:Tx} {o:Nat × List Nat} (h:BU T=some o):(o=(0,[]) /\ Jy T=(aJ,[])) \/ (∃ k,o=(1,[k]) /\ Jy T=(YN,[k]) /\ k < 1000) \/ (∃ i m,o=(2,[i,m]) /\ Jy T=(Qa,[i,m]) /\ i < 1000 /\ m < 1000) \/ (∃ r k,o=(3,[r,k]) /\ Jy T=(YL,[r,k]) /\ r < 1000 /\ k < 1000) \/ (o=(4,[]) /\ Jy T=(QZ,[])):=by
 obtain ⟨w,ws,hs⟩:∃ wd ws,Nv T=wd :: ws:=by
  cases h:Nv T with
  | nil=>exact absurd h (aV _ _)
  | cons a b=>exact ⟨a,b,rfl⟩
 have hr:=Yq hs h
 have hc:=Vs h
 have hk:∃ c,Cc w=some (o.1,c):=by
  unfold BU at h
  rw [hs] at h
  simp only at h
  split at h
  ·cases h
  ·rename_i k c hk
   split at h
   ·cases h
   ·obtain ⟨ns,_,rfl⟩:=Option.map_eq_some_iff.1 h
    exact ⟨c,hk⟩
 obtain ⟨c,zF⟩:=hk
 have hw:∀ k,o.1=k -> (k=0 -> w=aJ) /\ (k=1 -> w=YN) /\ (k=2 -> w=Qa) /\ (k=3 -> w=YL) /\ (k=4 -> w=QZ):=by
  intro k e
  rw [e] at zF
  unfold Cc at zF
  repeat' (split at zF;· rename_i e1;injection zF with zF;injection zF with h1 h2;subst h1;subst e1;simp)
  cases zF
 rw [hr]
 rcases hc with rfl | ⟨k,rfl,hk⟩ | ⟨i,m,rfl,hi,hm⟩ | ⟨r,k,rfl,h1,hk⟩ | rfl
 ·exact .inl ⟨rfl,by rw [(hw 0 rfl).1 rfl]⟩
 ·exact .inr (.inl ⟨k,rfl,by rw [(hw 1 rfl).2.1 rfl],hk⟩)
 ·exact .inr (.inr (.inl ⟨i,m,rfl,by rw [(hw 2 rfl).2.2.1 rfl],hi,hm⟩))
 ·exact .inr (.inr (.inr (.inl ⟨r,k,rfl,by rw [(hw 3 rfl).2.2.2.1 rfl],h1,hk⟩)))
 ·exact .inr (.inr (.inr (.inr ⟨rfl,by rw [(hw 4 rfl).2.2.2.2 rfl]⟩)))
theorem Fz {T:Tx} {o:Nat × List Nat} {x:Tx × List Nat} (h:BU T=some o) (hx:Jy T=x) (hT:T.length < 2000000):AR Tryz.prog 72 [CY T] (.many [.dv (dOR x),.dv (.bool true)]):=by
 have h1:=f72 T hT
 rw [h,hx] at h1;exact h1
theorem mU {T:Tx} (h:BU T=none) (hT:T.length < 2000000):AR Tryz.prog 72 [CY T] (.many [.dv (dOR ([],[])),.dv (.bool false)]):=by
 have h1:=f72 T hT
 rw [OV h,h] at h1;exact h1
set_option maxHeartbeats 4000000 in
set_option maxRecDepth 100000 in
theorem zo (b:Bg) (h:Hp) (n:Int) (c:Cs) (F:Fn b h n) (ok:C8 b h n c) (T:Tx) (hT:T.length < 2000000) (hp:BU T=none):Aw Tryz.prog 30 [.pt 100000 0 0,.dv (CY T)] (Ba (four b h n c 100004 100005 100006)) ⟨[.dv (i64 (2))],Ba (four b h n (c) 100004 100005 100006)⟩:=by
 have hol:=ok.ord
 refine DC Tryz.func30 rfl rfl (by rw [Tryz.ntmps30];simp) fun cx hP hn hg=>?_
 rw [Tryz.ntmps30] at hn
 refine Bj ?_
 refine sg ?_
 refine qv A9 ?_
 refine sg ?_
 refine qv A8 ?_
 refine Bo (mU hp hT) ?_
 refine qv A8 ?_
 iterate 2 refine qv Bf ?_
 refine qp (Fj Gz) ?_
 refine qs (CK FU) ?_
 refine qv A9 ?_
 refine AJ ?_
 refine sg ?_
 refine qv A8 ?_
 refine qv Bn ?_
 refine Dw (hb:=by rfl) (ht:=?_)
 refine sg ?_
 refine qv A9 ?_
 refine AP ?_
 exact xg [(100000,100000),(100001,100001),(100002,100002),(100003,100003)]
set_option maxHeartbeats 4000000 in
set_option maxRecDepth 100000 in
theorem pK (b:Bg) (h:Hp) (n:Int) (c:Cs) (F:Fn b h n) (ok:C8 b h n c) (T:Tx) (hT:T.length < 2000000) {o:Nat × List Nat} (ho:BU T=some o) (hl:100 <= c.orders.length):Aw Tryz.prog 30 [.pt 100000 0 0,.dv (CY T)] (Ba (four b h n c 100004 100005 100006)) ⟨[.dv (i64 (3))],Ba (four b h n (c) 100004 100005 100006)⟩:=by
 have hol:=ok.ord
 refine DC Tryz.func30 rfl rfl (by rw [Tryz.ntmps30];simp) fun cx hP hn hg=>?_
 rw [Tryz.ntmps30] at hn
 refine Bj ?_
 refine sg ?_
 refine qv A9 ?_
 refine sg ?_
 refine qv A8 ?_
 refine Bo (Fz ho rfl hT) ?_
 refine qv A8 ?_
 iterate 2 refine qv Bf ?_
 refine qp (Fj Gz) ?_
 refine qs (CK FU) ?_
 refine qv A9 ?_
 refine AJ ?_
 refine sg ?_
 refine qv A8 ?_
 refine qv Bn ?_
 refine Cv (hb:=by rfl) (ht:=?_)
 refine AY ?_
 refine AJ ?_
 refine sg ?_
 refine qv A8 ?_
 refine qv BR ?_
 refine qv (AB Cw) ?_
 refine qv (AL Fv Hl) ?_
 refine qv (Cg Dg) ?_
 refine qv Df ?_
 refine Dw (hb:=(by simp;omega)) (ht:=?_)
 refine sg ?_
 refine qv A9 ?_
 refine AP ?_
 exact xg [(100000,100000),(100001,100001),(100002,100002),(100003,100003)]
set_option maxHeartbeats 4000000 in
set_option maxRecDepth 100000 in
theorem uq (b:Bg) (h:Hp) (n:Int) (c:Cs) (F:Fn b h n) (ok:C8 b h n c) (T:Tx) (hT:T.length < 2000000) {o:Nat × List Nat} (ho:BU T=some o) (hx:Jy T=(aJ,[])) (hl:c.orders.length < 100):Aw Tryz.prog 30 [.pt 100000 0 0,.dv (CY T)] (Ba (four b h n c 100004 100005 100006)) ⟨[.dv (i64 (0))],Ba (four b h n ({ Nh b n c with orders:=c.orders ++ [T] }) 100004 100005 0)⟩:=by
 have hol:=ok.ord
 have hq:=f73 b h n c F ok
 have hqo:(Nh b n c).orders=c.orders:=rfl
 simp only [four,wR,rfC,hqo] at hq
 refine DC Tryz.func30 rfl rfl (by rw [Tryz.ntmps30];simp) fun cx hP hn hg=>?_
 rw [Tryz.ntmps30] at hn
 refine Bj ?_
 refine sg ?_
 refine qv A9 ?_
 refine sg ?_
 refine qv A8 ?_
 refine Bo (Fz ho hx hT) ?_
 refine qv A8 ?_
 iterate 2 refine qv Bf ?_
 refine qp (Fj Gz) ?_
 refine qs (CK FU) ?_
 refine qv A9 ?_
 refine AJ ?_
 refine sg ?_
 refine qv A8 ?_
 refine qv Bn ?_
 refine Cv (hb:=by rfl) (ht:=?_)
 refine AY ?_
 refine AJ ?_
 refine sg ?_
 refine qv A8 ?_
 refine qv BR ?_
 refine qv (AB Cw) ?_
 refine qv (AL Fv Hl) ?_
 refine qv (Cg Dg) ?_
 refine qv Df ?_
 refine Cv (hb:=(by simp;omega)) (ht:=?_)
 refine AY ?_
 refine sg ?_
 refine qv A9 ?_
 refine AJ ?_
 refine sg ?_
 refine qv (AB Ib) ?_
 refine qv (AL DZ Mk) ?_
 refine BD ?_
 refine sg ?_
 refine qv D5 ?_
 refine qv A9 ?_
 refine Dw (hb:=(by decide)) (ht:=?_)
 refine rg ?_
 refine qv A8 ?_
 refine Dx (hq) [] [(100000,100000),(100001,100001),(100002,100002),(100003,100003)] [100000,100001,100002,100003] ?_
 refine AJ ?_
 refine sg ?_
 refine qv A8 ?_
 refine qv Bv ?_
 refine Dw (hb:=(by rfl)) (ht:=?_)
 refine rg ?_
 iterate 2 refine qv A8 ?_
 refine qv BR ?_
 refine qv (AB Cw) ?_
 refine qv (AL Fv Hl) ?_
 refine qv A8 ?_
 refine qr (D7 CF KL DZ) ?_
 refine Qg (DK CF CF KL DZ WQ (hc:=El)) ?_
 refine qv BR ?_
 skip
 refine qv (AB Cw) ?_
 refine qs (CK Fv) ?_
 refine sg ?_
 refine qv A8 ?_
 refine qv A9 ?_
 refine AP ?_
 exact xg [(100000,100000),(100001,100001),(100002,100002),(100003,75)] (h2:=by simp [CV,Al,Ae,Aa,isLive,Ac,Ba,AA,Ch,BK,BJ,CR,Af,BI,BL,BO,BM,BN,Dv];try simp [CV,Al,Ae,Aa,isLive,Ac,Ba,AA,Ch,BK,BJ,CR,Af,BI,BL,BO,BM,BN,Dv,Qt,Nh,Kr,I6,NQ])
set_option maxHeartbeats 4000000 in
set_option maxRecDepth 100000 in
theorem jh (b:Bg) (h:Hp) (n:Int) (c:Cs) (F:Fn b h n) (ok:C8 b h n c) (T:Tx) (hT:T.length < 2000000) (k:Nat) (hk:k < 1000) {o:Nat × List Nat} (ho:BU T=some o) (hx:Jy T=(YN,[k])) (hl:c.orders.length < 100) (he:Fp b c k=0):Aw Tryz.prog 30 [.pt 100000 0 0,.dv (CY T)] (Ba (four b h n c 100004 100005 100006)) ⟨[.dv (i64 (0))],Ba (four b h n ({ Kr b h c k with orders:=c.orders ++ [T] }) 100004 0 0)⟩:=by
 have hol:=ok.ord
 have hq:=f74 b h n c k F ok hk
 rw [he,Jz,if_pos rfl] at hq
 have hqo:(Kr b h c k).orders=c.orders:=rfl
 simp only [four,wR,rfC,hqo] at hq
 have g0:([(k:Int)]:List Int)[0]?=some (k:Int):=rfl
 refine DC Tryz.func30 rfl rfl (by rw [Tryz.ntmps30];simp) fun cx hP hn hg=>?_
 rw [Tryz.ntmps30] at hn
 refine Bj ?_
 refine sg ?_
 refine qv A9 ?_
 refine sg ?_
 refine qv A8 ?_
 refine Bo (Fz ho hx hT) ?_
 refine qv A8 ?_
 iterate 2 refine qv Bf ?_
 refine qp (Fj Gz) ?_
 refine qs (CK FU) ?_
 refine qv A9 ?_
 refine AJ ?_
 refine sg ?_
 refine qv A8 ?_
 refine qv Bn ?_
 refine Cv (hb:=by rfl) (ht:=?_)
 refine AY ?_
 refine AJ ?_
 refine sg ?_
 refine qv A8 ?_
 refine qv BR ?_
 refine qv (AB Cw) ?_
 refine qv (AL Fv Hl) ?_
 refine qv (Cg Dg) ?_
 refine qv Df ?_
 refine Cv (hb:=(by simp;omega)) (ht:=?_)
 refine AY ?_
 refine sg ?_
 refine qv A9 ?_
 refine AJ ?_
 refine sg ?_
 refine qv (AB Ib) ?_
 refine qv (AL DZ Mk) ?_
 refine BD ?_
 refine sg ?_
 refine qv D5 ?_
 refine qv A9 ?_
 refine Cv (hb:=(by decide)) (ht:=?_)
 refine sg ?_
 refine qv D5 ?_
 refine qv A9 ?_
 refine Dw (hb:=(by decide)) (ht:=?_)
 refine rg ?_
 refine qv A8 ?_
 refine qv (AB G7) ?_
 refine qv (AL Av Bl) ?_
 first | refine qv (BA Ap Ak) ?_ | refine qv (Bd Ap Ak) ?_
 refine qv (Bb Ak Br) ?_
 refine Dx (hq) [] [(100000,100000),(100001,100001),(100002,100002),(100003,100003)] [100000,100001,100002,100003] ?_
 refine qv A9 ?_
 refine AJ ?_
 refine sg ?_
 refine qv A8 ?_
 refine qv Bv ?_
 refine Dw (hb:=(by rfl)) (ht:=?_)
 refine rg ?_
 iterate 2 refine qv A8 ?_
 refine qv BR ?_
 refine qv (AB Cw) ?_
 refine qv (AL Fv Hl) ?_
 refine qv A8 ?_
 refine qr (D7 CF KL DZ) ?_
 refine Qg (DK CF CF KL DZ WQ (hc:=El)) ?_
 refine qv BR ?_
 skip
 refine qv (AB Cw) ?_
 refine qs (CK Fv) ?_
 refine sg ?_
 refine qv A8 ?_
 refine qv A9 ?_
 refine AP ?_
 exact xg [(100000,100000),(100001,100001),(100002,100002),(100003,75)] (h2:=by simp [CV,Al,Ae,Aa,isLive,Ac,Ba,AA,Ch,BK,BJ,CR,Af,BI,BL,BO,BM,BN,Dv];try simp [CV,Al,Ae,Aa,isLive,Ac,Ba,AA,Ch,BK,BJ,CR,Af,BI,BL,BO,BM,BN,Dv,Qt,Nh,Kr,I6,NQ])
set_option maxHeartbeats 4000000 in
set_option maxRecDepth 100000 in
theorem ji (b:Bg) (h:Hp) (n:Int) (c:Cs) (F:Fn b h n) (ok:C8 b h n c) (T:Tx) (hT:T.length < 2000000) (k:Nat) (hk:k < 1000) {o:Nat × List Nat} (ho:BU T=some o) (hx:Jy T=(YN,[k])) (hl:c.orders.length < 100) (he:Fp b c k ≠ 0):Aw Tryz.prog 30 [.pt 100000 0 0,.dv (CY T)] (Ba (four b h n c 100004 100005 100006)) ⟨[.dv (i64 (Fp b c k))],Ba (four b h n (c) 100004 100005 100006)⟩:=by
 have hol:=ok.ord
 have hq:=f74 b h n c k F ok hk
 rw [Ew he,if_neg he] at hq
 have g0:([(k:Int)]:List Int)[0]?=some (k:Int):=rfl
 refine DC Tryz.func30 rfl rfl (by rw [Tryz.ntmps30];simp) fun cx hP hn hg=>?_
 rw [Tryz.ntmps30] at hn
 refine Bj ?_
 refine sg ?_
 refine qv A9 ?_
 refine sg ?_
 refine qv A8 ?_
 refine Bo (Fz ho hx hT) ?_
 refine qv A8 ?_
 iterate 2 refine qv Bf ?_
 refine qp (Fj Gz) ?_
 refine qs (CK FU) ?_
 refine qv A9 ?_
 refine AJ ?_
 refine sg ?_
 refine qv A8 ?_
 refine qv Bn ?_
 refine Cv (hb:=by rfl) (ht:=?_)
 refine AY ?_
 refine AJ ?_
 refine sg ?_
 refine qv A8 ?_
 refine qv BR ?_
 refine qv (AB Cw) ?_
 refine qv (AL Fv Hl) ?_
 refine qv (Cg Dg) ?_
 refine qv Df ?_
 refine Cv (hb:=(by simp;omega)) (ht:=?_)
 refine AY ?_
 refine sg ?_
 refine qv A9 ?_
 refine AJ ?_
 refine sg ?_
 refine qv (AB Ib) ?_
 refine qv (AL DZ Mk) ?_
 refine BD ?_
 refine sg ?_
 refine qv D5 ?_
 refine qv A9 ?_
 refine Cv (hb:=(by decide)) (ht:=?_)
 refine sg ?_
 refine qv D5 ?_
 refine qv A9 ?_
 refine Dw (hb:=(by decide)) (ht:=?_)
 refine rg ?_
 refine qv A8 ?_
 refine qv (AB G7) ?_
 refine qv (AL Av Bl) ?_
 first | refine qv (BA Ap Ak) ?_ | refine qv (Bd Ap Ak) ?_
 refine qv (Bb Ak Br) ?_
 refine Dx (hq) [] [(100000,100000),(100001,100001),(100002,100002),(100003,100003)] [100000,100001,100002,100003] ?_
 refine qv A9 ?_
 refine AJ ?_
 refine sg ?_
 refine qv A8 ?_
 refine qv Bv ?_
 refine Cv (hb:=(by simp [he])) (ht:=?_)
 refine AY ?_
 refine sg ?_
 refine qv A8 ?_
 refine qv A9 ?_
 refine AP ?_
 exact xg [(100000,100000),(100001,100001),(100002,100002),(100003,100003)]
set_option maxHeartbeats 4000000 in
set_option maxRecDepth 100000 in
theorem dG (b:Bg) (h:Hp) (n:Int) (c:Cs) (F:Fn b h n) (ok:C8 b h n c) (T:Tx) (hT:T.length < 2000000) (i m:Nat) (hi:i < 1000) (hm:m < 1000) {o:Nat × List Nat} (ho:BU T=some o) (hx:Jy T=(Qa,[i,m])) (hl:c.orders.length < 100) (he:EW c i m=0):Aw Tryz.prog 30 [.pt 100000 0 0,.dv (CY T)] (Ba (four b h n c 100004 100005 100006)) ⟨[.dv (i64 (0))],Ba (four b h n ({ I6 c i m with orders:=c.orders ++ [T] }) 100004 100005 0)⟩:=by
 have hol:=ok.ord
 have hq:=f75 b h n c i m F ok hi hm
 rw [he,Jz] at hq
 have hqo:(I6 c i m).orders=c.orders:=rfl
 simp only [four,wR,rfC,hqo] at hq
 have g0:([(i:Int),(m:Int)]:List Int)[0]?=some (i:Int):=rfl
 have g1:([(i:Int),(m:Int)]:List Int)[1]?=some (m:Int):=rfl
 refine DC Tryz.func30 rfl rfl (by rw [Tryz.ntmps30];simp) fun cx hP hn hg=>?_
 rw [Tryz.ntmps30] at hn
 refine Bj ?_
 refine sg ?_
 refine qv A9 ?_
 refine sg ?_
 refine qv A8 ?_
 refine Bo (Fz ho hx hT) ?_
 refine qv A8 ?_
 iterate 2 refine qv Bf ?_
 refine qp (Fj Gz) ?_
 refine qs (CK FU) ?_
 refine qv A9 ?_
 refine AJ ?_
 refine sg ?_
 refine qv A8 ?_
 refine qv Bn ?_
 refine Cv (hb:=by rfl) (ht:=?_)
 refine AY ?_
 refine AJ ?_
 refine sg ?_
 refine qv A8 ?_
 refine qv BR ?_
 refine qv (AB Cw) ?_
 refine qv (AL Fv Hl) ?_
 refine qv (Cg Dg) ?_
 refine qv Df ?_
 refine Cv (hb:=(by simp;omega)) (ht:=?_)
 refine AY ?_
 refine sg ?_
 refine qv A9 ?_
 refine AJ ?_
 refine sg ?_
 refine qv (AB Ib) ?_
 refine qv (AL DZ Mk) ?_
 refine BD ?_
 refine sg ?_
 refine qv D5 ?_
 refine qv A9 ?_
 refine Cv (hb:=(by decide)) (ht:=?_)
 refine sg ?_
 refine qv D5 ?_
 refine qv A9 ?_
 refine Cv (hb:=(by decide)) (ht:=?_)
 refine sg ?_
 refine qv D5 ?_
 refine qv A9 ?_
 refine Dw (hb:=(by decide)) (ht:=?_)
 refine rd mixed ?_
 refine zv A8 ?_
 refine zv (AB G7) ?_
 refine zv (AL Av Bl) ?_
 first | refine zv (BA Ap Ak) ?_ | refine zv (Bd Ap Ak) ?_
 refine zv (Bb Ak Br) ?_
 refine zv (AB G7) ?_
 refine zv (AL Av Bl) ?_
 first | refine zv (BA Ap Ak) ?_ | refine zv (Bd Ap Ak) ?_
 refine zv (Bb Ak Br) ?_
 refine PX (hq) [] [(100000,100000),(100001,100001),(100002,100002),(100003,100003)] [100000,100001,100002,100003] ?_
 refine zv A9 ?_
 refine ⟨by rfl,?_⟩
 refine AJ ?_
 refine sg ?_
 refine qv A8 ?_
 refine qv Bv ?_
 refine Dw (hb:=(by rfl)) (ht:=?_)
 refine rg ?_
 iterate 2 refine qv A8 ?_
 refine qv BR ?_
 refine qv (AB Cw) ?_
 refine qv (AL Fv Hl) ?_
 refine qv A8 ?_
 refine qr (D7 CF KL DZ) ?_
 refine Qg (DK CF CF KL DZ WQ (hc:=El)) ?_
 refine qv BR ?_
 skip
 refine qv (AB Cw) ?_
 refine qs (CK Fv) ?_
 refine sg ?_
 refine qv A8 ?_
 refine qv A9 ?_
 refine AP ?_
 exact xg [(100000,100000),(100001,100001),(100002,100002),(100003,75)] (h2:=by simp [CV,Al,Ae,Aa,isLive,Ac,Ba,AA,Ch,BK,BJ,CR,Af,BI,BL,BO,BM,BN,Dv];try simp [CV,Al,Ae,Aa,isLive,Ac,Ba,AA,Ch,BK,BJ,CR,Af,BI,BL,BO,BM,BN,Dv,Qt,Nh,Kr,I6,NQ])
set_option maxHeartbeats 4000000 in
set_option maxRecDepth 100000 in
theorem dH (b:Bg) (h:Hp) (n:Int) (c:Cs) (F:Fn b h n) (ok:C8 b h n c) (T:Tx) (hT:T.length < 2000000) (i m:Nat) (hi:i < 1000) (hm:m < 1000) {o:Nat × List Nat} (ho:BU T=some o) (hx:Jy T=(Qa,[i,m])) (hl:c.orders.length < 100) (he:EW c i m ≠ 0):Aw Tryz.prog 30 [.pt 100000 0 0,.dv (CY T)] (Ba (four b h n c 100004 100005 100006)) ⟨[.dv (i64 (EW c i m))],Ba (four b h n (c) 100004 100005 100006)⟩:=by
 have hol:=ok.ord
 have hq:=f75 b h n c i m F ok hi hm
 rw [Ew he] at hq
 have g0:([(i:Int),(m:Int)]:List Int)[0]?=some (i:Int):=rfl
 have g1:([(i:Int),(m:Int)]:List Int)[1]?=some (m:Int):=rfl
 refine DC Tryz.func30 rfl rfl (by rw [Tryz.ntmps30];simp) fun cx hP hn hg=>?_
 rw [Tryz.ntmps30] at hn
 refine Bj ?_
 refine sg ?_
 refine qv A9 ?_
 refine sg ?_
 refine qv A8 ?_
 refine Bo (Fz ho hx hT) ?_
 refine qv A8 ?_
 iterate 2 refine qv Bf ?_
 refine qp (Fj Gz) ?_
 refine qs (CK FU) ?_
 refine qv A9 ?_
 refine AJ ?_
 refine sg ?_
 refine qv A8 ?_
 refine qv Bn ?_
 refine Cv (hb:=by rfl) (ht:=?_)
 refine AY ?_
 refine AJ ?_
 refine sg ?_
 refine qv A8 ?_
 refine qv BR ?_
 refine qv (AB Cw) ?_
 refine qv (AL Fv Hl) ?_
 refine qv (Cg Dg) ?_
 refine qv Df ?_
 refine Cv (hb:=(by simp;omega)) (ht:=?_)
 refine AY ?_
 refine sg ?_
 refine qv A9 ?_
 refine AJ ?_
 refine sg ?_
 refine qv (AB Ib) ?_
 refine qv (AL DZ Mk) ?_
 refine BD ?_
 refine sg ?_
 refine qv D5 ?_
 refine qv A9 ?_
 refine Cv (hb:=(by decide)) (ht:=?_)
 refine sg ?_
 refine qv D5 ?_
 refine qv A9 ?_
 refine Cv (hb:=(by decide)) (ht:=?_)
 refine sg ?_
 refine qv D5 ?_
 refine qv A9 ?_
 refine Dw (hb:=(by decide)) (ht:=?_)
 refine rd mixed ?_
 refine zv A8 ?_
 refine zv (AB G7) ?_
 refine zv (AL Av Bl) ?_
 first | refine zv (BA Ap Ak) ?_ | refine zv (Bd Ap Ak) ?_
 refine zv (Bb Ak Br) ?_
 refine zv (AB G7) ?_
 refine zv (AL Av Bl) ?_
 first | refine zv (BA Ap Ak) ?_ | refine zv (Bd Ap Ak) ?_
 refine zv (Bb Ak Br) ?_
 refine PX (hq) [] [(100000,100000),(100001,100001),(100002,100002),(100003,100003)] [100000,100001,100002,100003] ?_
 refine zv A9 ?_
 refine ⟨by rfl,?_⟩
 refine AJ ?_
 refine sg ?_
 refine qv A8 ?_
 refine qv Bv ?_
 refine Cv (hb:=(by simp [he])) (ht:=?_)
 refine AY ?_
 refine sg ?_
 refine qv A8 ?_
 refine qv A9 ?_
 refine AP ?_
 exact xg [(100000,100000),(100001,100001),(100002,100002),(100003,100003)]
set_option maxHeartbeats 4000000 in
set_option maxRecDepth 100000 in
theorem jf (b:Bg) (h:Hp) (n:Int) (c:Cs) (F:Fn b h n) (ok:C8 b h n c) (T:Tx) (hT:T.length < 2000000) (r k:Nat) (hr:r < 1000) (hk:k < 1000) {o:Nat × List Nat} (ho:BU T=some o) (hx:Jy T=(YL,[r,k])) (hl:c.orders.length < 100) (he:GH b c r k=0):Aw Tryz.prog 30 [.pt 100000 0 0,.dv (CY T)] (Ba (four b h n c 100004 100005 100006)) ⟨[.dv (i64 (0))],Ba (four b h n ({ NQ b c r k with orders:=c.orders ++ [T] }) 100004 100005 0)⟩:=by
 have hol:=ok.ord
 have hq:=f76 b h n c r k F ok hr hk
 rw [he,Jz] at hq
 have hqo:(NQ b c r k).orders=c.orders:=rfl
 simp only [four,wR,rfC,hqo] at hq
 have g0:([(r:Int),(k:Int)]:List Int)[0]?=some (r:Int):=rfl
 have g1:([(r:Int),(k:Int)]:List Int)[1]?=some (k:Int):=rfl
 refine DC Tryz.func30 rfl rfl (by rw [Tryz.ntmps30];simp) fun cx hP hn hg=>?_
 rw [Tryz.ntmps30] at hn
 refine Bj ?_
 refine sg ?_
 refine qv A9 ?_
 refine sg ?_
 refine qv A8 ?_
 refine Bo (Fz ho hx hT) ?_
 refine qv A8 ?_
 iterate 2 refine qv Bf ?_
 refine qp (Fj Gz) ?_
 refine qs (CK FU) ?_
 refine qv A9 ?_
 refine AJ ?_
 refine sg ?_
 refine qv A8 ?_
 refine qv Bn ?_
 refine Cv (hb:=by rfl) (ht:=?_)
 refine AY ?_
 refine AJ ?_
 refine sg ?_
 refine qv A8 ?_
 refine qv BR ?_
 refine qv (AB Cw) ?_
 refine qv (AL Fv Hl) ?_
 refine qv (Cg Dg) ?_
 refine qv Df ?_
 refine Cv (hb:=(by simp;omega)) (ht:=?_)
 refine AY ?_
 refine sg ?_
 refine qv A9 ?_
 refine AJ ?_
 refine sg ?_
 refine qv (AB Ib) ?_
 refine qv (AL DZ Mk) ?_
 refine BD ?_
 refine sg ?_
 refine qv D5 ?_
 refine qv A9 ?_
 refine Cv (hb:=(by decide)) (ht:=?_)
 refine sg ?_
 refine qv D5 ?_
 refine qv A9 ?_
 refine Cv (hb:=(by decide)) (ht:=?_)
 refine sg ?_
 refine qv D5 ?_
 refine qv A9 ?_
 refine Cv (hb:=(by decide)) (ht:=?_)
 refine sg ?_
 refine qv D5 ?_
 refine qv A9 ?_
 refine Dw (hb:=(by decide)) (ht:=?_)
 refine rd mixed ?_
 refine zv A8 ?_
 refine zv (AB G7) ?_
 refine zv (AL Av Bl) ?_
 first | refine zv (BA Ap Ak) ?_ | refine zv (Bd Ap Ak) ?_
 refine zv (Bb Ak Br) ?_
 refine zv (AB G7) ?_
 refine zv (AL Av Bl) ?_
 first | refine zv (BA Ap Ak) ?_ | refine zv (Bd Ap Ak) ?_
 refine zv (Bb Ak Br) ?_
 refine PX (hq) [] [(100000,100000),(100001,100001),(100002,100002),(100003,100003)] [100000,100001,100002,100003] ?_
 refine zv A9 ?_
 refine ⟨by rfl,?_⟩
 refine AJ ?_
 refine sg ?_
 refine qv A8 ?_
 refine qv Bv ?_
 refine Dw (hb:=(by rfl)) (ht:=?_)
 refine rg ?_
 iterate 2 refine qv A8 ?_
 refine qv BR ?_
 refine qv (AB Cw) ?_
 refine qv (AL Fv Hl) ?_
 refine qv A8 ?_
 refine qr (D7 CF KL DZ) ?_
 refine Qg (DK CF CF KL DZ WQ (hc:=El)) ?_
 refine qv BR ?_
 skip
 refine qv (AB Cw) ?_
 refine qs (CK Fv) ?_
 refine sg ?_
 refine qv A8 ?_
 refine qv A9 ?_
 refine AP ?_
 exact xg [(100000,100000),(100001,100001),(100002,100002),(100003,75)] (h2:=by simp [CV,Al,Ae,Aa,isLive,Ac,Ba,AA,Ch,BK,BJ,CR,Af,BI,BL,BO,BM,BN,Dv];try simp [CV,Al,Ae,Aa,isLive,Ac,Ba,AA,Ch,BK,BJ,CR,Af,BI,BL,BO,BM,BN,Dv,Qt,Nh,Kr,I6,NQ])
set_option maxHeartbeats 4000000 in
set_option maxRecDepth 100000 in
theorem jg (b:Bg) (h:Hp) (n:Int) (c:Cs) (F:Fn b h n) (ok:C8 b h n c) (T:Tx) (hT:T.length < 2000000) (r k:Nat) (hr:r < 1000) (hk:k < 1000) {o:Nat × List Nat} (ho:BU T=some o) (hx:Jy T=(YL,[r,k])) (hl:c.orders.length < 100) (he:GH b c r k ≠ 0):Aw Tryz.prog 30 [.pt 100000 0 0,.dv (CY T)] (Ba (four b h n c 100004 100005 100006)) ⟨[.dv (i64 (GH b c r k))],Ba (four b h n (c) 100004 100005 100006)⟩:=by
 have hol:=ok.ord
 have hq:=f76 b h n c r k F ok hr hk
 rw [Ew he] at hq
 have g0:([(r:Int),(k:Int)]:List Int)[0]?=some (r:Int):=rfl
 have g1:([(r:Int),(k:Int)]:List Int)[1]?=some (k:Int):=rfl
 refine DC Tryz.func30 rfl rfl (by rw [Tryz.ntmps30];simp) fun cx hP hn hg=>?_
 rw [Tryz.ntmps30] at hn
 refine Bj ?_
 refine sg ?_
 refine qv A9 ?_
 refine sg ?_
 refine qv A8 ?_
 refine Bo (Fz ho hx hT) ?_
 refine qv A8 ?_
 iterate 2 refine qv Bf ?_
 refine qp (Fj Gz) ?_
 refine qs (CK FU) ?_
 refine qv A9 ?_
 refine AJ ?_
 refine sg ?_
 refine qv A8 ?_
 refine qv Bn ?_
 refine Cv (hb:=by rfl) (ht:=?_)
 refine AY ?_
 refine AJ ?_
 refine sg ?_
 refine qv A8 ?_
 refine qv BR ?_
 refine qv (AB Cw) ?_
 refine qv (AL Fv Hl) ?_
 refine qv (Cg Dg) ?_
 refine qv Df ?_
 refine Cv (hb:=(by simp;omega)) (ht:=?_)
 refine AY ?_
 refine sg ?_
 refine qv A9 ?_
 refine AJ ?_
 refine sg ?_
 refine qv (AB Ib) ?_
 refine qv (AL DZ Mk) ?_
 refine BD ?_
 refine sg ?_
 refine qv D5 ?_
 refine qv A9 ?_
 refine Cv (hb:=(by decide)) (ht:=?_)
 refine sg ?_
 refine qv D5 ?_
 refine qv A9 ?_
 refine Cv (hb:=(by decide)) (ht:=?_)
 refine sg ?_
 refine qv D5 ?_
 refine qv A9 ?_
 refine Cv (hb:=(by decide)) (ht:=?_)
 refine sg ?_
 refine qv D5 ?_
 refine qv A9 ?_
 refine Dw (hb:=(by decide)) (ht:=?_)
 refine rd mixed ?_
 refine zv A8 ?_
 refine zv (AB G7) ?_
 refine zv (AL Av Bl) ?_
 first | refine zv (BA Ap Ak) ?_ | refine zv (Bd Ap Ak) ?_
 refine zv (Bb Ak Br) ?_
 refine zv (AB G7) ?_
 refine zv (AL Av Bl) ?_
 first | refine zv (BA Ap Ak) ?_ | refine zv (Bd Ap Ak) ?_
 refine zv (Bb Ak Br) ?_
 refine PX (hq) [] [(100000,100000),(100001,100001),(100002,100002),(100003,100003)] [100000,100001,100002,100003] ?_
 refine zv A9 ?_
 refine ⟨by rfl,?_⟩
 refine AJ ?_
 refine sg ?_
 refine qv A8 ?_
 refine qv Bv ?_
 refine Cv (hb:=(by simp [he])) (ht:=?_)
 refine AY ?_
 refine sg ?_
 refine qv A8 ?_
 refine qv A9 ?_
 refine AP ?_
 exact xg [(100000,100000),(100001,100001),(100002,100002),(100003,100003)]
set_option maxHeartbeats 4000000 in
set_option maxRecDepth 100000 in
theorem dD (b:Bg) (h:Hp) (n:Int) (c:Cs) (F:Fn b h n) (ok:C8 b h n c) (T:Tx) (hT:T.length < 2000000) {o:Nat × List Nat} (ho:BU T=some o) (hx:Jy T=(QZ,[])) (hl:c.orders.length < 100) (he:c.shut=false):Aw Tryz.prog 30 [.pt 100000 0 0,.dv (CY T)] (Ba (four b h n c 100004 100005 100006)) ⟨[.dv (i64 (0))],Ba (four b h n ({ { c with shut:=true } with orders:=c.orders ++ [T] }) 100004 100005 0)⟩:=by
 have hol:=ok.ord
 refine DC Tryz.func30 rfl rfl (by rw [Tryz.ntmps30];simp) fun cx hP hn hg=>?_
 rw [Tryz.ntmps30] at hn
 refine Bj ?_
 refine sg ?_
 refine qv A9 ?_
 refine sg ?_
 refine qv A8 ?_
 refine Bo (Fz ho hx hT) ?_
 refine qv A8 ?_
 iterate 2 refine qv Bf ?_
 refine qp (Fj Gz) ?_
 refine qs (CK FU) ?_
 refine qv A9 ?_
 refine AJ ?_
 refine sg ?_
 refine qv A8 ?_
 refine qv Bn ?_
 refine Cv (hb:=by rfl) (ht:=?_)
 refine AY ?_
 refine AJ ?_
 refine sg ?_
 refine qv A8 ?_
 refine qv BR ?_
 refine qv (AB Cw) ?_
 refine qv (AL Fv Hl) ?_
 refine qv (Cg Dg) ?_
 refine qv Df ?_
 refine Cv (hb:=(by simp;omega)) (ht:=?_)
 refine AY ?_
 refine sg ?_
 refine qv A9 ?_
 refine AJ ?_
 refine sg ?_
 refine qv (AB Ib) ?_
 refine qv (AL DZ Mk) ?_
 refine BD ?_
 refine sg ?_
 refine qv D5 ?_
 refine qv A9 ?_
 refine Cv (hb:=(by decide)) (ht:=?_)
 refine sg ?_
 refine qv D5 ?_
 refine qv A9 ?_
 refine Cv (hb:=(by decide)) (ht:=?_)
 refine sg ?_
 refine qv D5 ?_
 refine qv A9 ?_
 refine Cv (hb:=(by decide)) (ht:=?_)
 refine sg ?_
 refine qv D5 ?_
 refine qv A9 ?_
 refine Cv (hb:=(by decide)) (ht:=?_)
 refine AJ ?_
 refine sg ?_
 refine qv A8 ?_
 refine qv BR ?_
 refine qv (AB Om) ?_
 refine qv (AL H8 YG) ?_
 refine Cv (hb:=(by simp [he])) (ht:=?_)
 refine AY ?_
 refine rg ?_
 refine qv A8 ?_
 refine qv BR ?_
 refine qv (AB Om) ?_
 refine qs (CK H8) ?_
 refine AJ ?_
 refine sg ?_
 refine qv A8 ?_
 refine qv Bv ?_
 refine Dw (hb:=(by rfl)) (ht:=?_)
 refine rg ?_
 iterate 2 refine qv A8 ?_
 refine qv BR ?_
 refine qv (AB Cw) ?_
 refine qv (AL Fv Hl) ?_
 refine qv A8 ?_
 refine qr (D7 CF KL DZ) ?_
 refine Qg (DK CF CF KL DZ WQ (hc:=El)) ?_
 refine qv BR ?_
 skip
 refine qv (AB Cw) ?_
 refine qs (CK Fv) ?_
 refine sg ?_
 refine qv A8 ?_
 refine qv A9 ?_
 refine AP ?_
 exact xg [(100000,100000),(100001,100001),(100002,100002),(100003,75)] (h2:=by simp [CV,Al,Ae,Aa,isLive,Ac,Ba,AA,Ch,BK,BJ,CR,Af,BI,BL,BO,BM,BN,Dv];try simp [CV,Al,Ae,Aa,isLive,Ac,Ba,AA,Ch,BK,BJ,CR,Af,BI,BL,BO,BM,BN,Dv,Qt,Nh,Kr,I6,NQ])
set_option maxHeartbeats 4000000 in
set_option maxRecDepth 100000 in
theorem dF (b:Bg) (h:Hp) (n:Int) (c:Cs) (F:Fn b h n) (ok:C8 b h n c) (T:Tx) (hT:T.length < 2000000) {o:Nat × List Nat} (ho:BU T=some o) (hx:Jy T=(QZ,[])) (hl:c.orders.length < 100) (he:c.shut=true):Aw Tryz.prog 30 [.pt 100000 0 0,.dv (CY T)] (Ba (four b h n c 100004 100005 100006)) ⟨[.dv (i64 (5))],Ba (four b h n (c) 100004 100005 100006)⟩:=by
 have hol:=ok.ord
 refine DC Tryz.func30 rfl rfl (by rw [Tryz.ntmps30];simp) fun cx hP hn hg=>?_
 rw [Tryz.ntmps30] at hn
 refine Bj ?_
 refine sg ?_
 refine qv A9 ?_
 refine sg ?_
 refine qv A8 ?_
 refine Bo (Fz ho hx hT) ?_
 refine qv A8 ?_
 iterate 2 refine qv Bf ?_
 refine qp (Fj Gz) ?_
 refine qs (CK FU) ?_
 refine qv A9 ?_
 refine AJ ?_
 refine sg ?_
 refine qv A8 ?_
 refine qv Bn ?_
 refine Cv (hb:=by rfl) (ht:=?_)
 refine AY ?_
 refine AJ ?_
 refine sg ?_
 refine qv A8 ?_
 refine qv BR ?_
 refine qv (AB Cw) ?_
 refine qv (AL Fv Hl) ?_
 refine qv (Cg Dg) ?_
 refine qv Df ?_
 refine Cv (hb:=(by simp;omega)) (ht:=?_)
 refine AY ?_
 refine sg ?_
 refine qv A9 ?_
 refine AJ ?_
 refine sg ?_
 refine qv (AB Ib) ?_
 refine qv (AL DZ Mk) ?_
 refine BD ?_
 refine sg ?_
 refine qv D5 ?_
 refine qv A9 ?_
 refine Cv (hb:=(by decide)) (ht:=?_)
 refine sg ?_
 refine qv D5 ?_
 refine qv A9 ?_
 refine Cv (hb:=(by decide)) (ht:=?_)
 refine sg ?_
 refine qv D5 ?_
 refine qv A9 ?_
 refine Cv (hb:=(by decide)) (ht:=?_)
 refine sg ?_
 refine qv D5 ?_
 refine qv A9 ?_
 refine Cv (hb:=(by decide)) (ht:=?_)
 refine AJ ?_
 refine sg ?_
 refine qv A8 ?_
 refine qv BR ?_
 refine qv (AB Om) ?_
 refine qv (AL H8 YG) ?_
 refine Dw (hb:=(by simp [he])) (ht:=?_)
 refine sg ?_
 refine qv A9 ?_
 refine AP ?_
 exact xg [(100000,100000),(100001,100001),(100002,100002),(100003,100003)]
theorem f30 (b:Bg) (h:Hp) (n:Int) (c:Cs) (F:Fn b h n) (ok:C8 b h n c) (T:Tx) (hT:T.length < 2000000):Aw Tryz.prog 30 [.pt 100000 0 0,.dv (CY T)] (Ba (four b h n c 100004 100005 100006)) ⟨[.dv (i64 (Kq b c T))],Ba (four b h n (Mx b h n c T) 0 0 0)⟩:=by
 have own:∀ {e:Int} {x:Cs} {s1 s2 s3:Nat},(s1=0 \/ s1=100004) -> (s2=0 \/ s2=100005) -> (s3=0 \/ s3=100006) -> Aw Tryz.prog 30 [.pt 100000 0 0,.dv (CY T)] (Ba (four b h n c 100004 100005 100006)) ⟨[.dv (i64 e)],Ba (four b h n x s1 s2 s3)⟩ -> Aw Tryz.prog 30 [.pt 100000 0 0,.dv (CY T)] (Ba (four b h n c 100004 100005 100006)) ⟨[.dv (i64 e)],Ba (four b h n x 0 0 0)⟩:=by
  intro e x s1 s2 s3 h1 h2 h3 hh
  have oo:∀ {y:Nat} {k:Nat} {B:Nat -> BG},(y=0 \/ y=k) -> 3 <= k -> (∀ s,(B s).st=s) -> (∀ s,B 0={ B s with st:=0 }) -> (B 0=B y \/ (3 <= (B y).st /\ B 0={ B y with st:=0 })):=by
   intro y k B h1 h2 h3 h4
   rcases h1 with rfl | rfl
   ·exact .inl rfl
   ·exact .inr ⟨by rw [h3];exact h2,h4 _⟩
  refine hh.own ⟨rfl,.inl rfl,rfl,oo (B:=rowIs x.AU) h1 (by decide) (fun _=>rfl) (fun _=>rfl),rfl,oo (B:=rowIs x.AX) h2 (by decide) (fun _=>rfl) (fun _=>rfl),rfl,oo (B:=Cy x.orders) h3 (by decide) (fun _=>rfl) (fun _=>rfl),trivial⟩
 by_cases e:Kq b c T=0
 ·obtain ⟨o,h1,h2,h3,h4⟩:=Xi (h:=h) (n:=n) e
  rw [e,h4]
  rcases Sq h1 with ⟨rfl,hx⟩ | ⟨k,rfl,hx,hk⟩ | ⟨i,m,rfl,hx,hi,hm⟩ | ⟨r,k,rfl,hx,hr,hk⟩ | ⟨rfl,hx⟩
  ·exact own (.inr rfl) (.inr rfl) (.inl rfl) (uq b h n c F ok T hT h1 hx h2)
  ·exact own (.inr rfl) (.inl rfl) (.inl rfl) (jh b h n c F ok T hT k hk h1 hx h2 h3)
  ·exact own (.inr rfl) (.inr rfl) (.inl rfl) (dG b h n c F ok T hT i m hi hm h1 hx h2 h3)
  ·exact own (.inr rfl) (.inr rfl) (.inl rfl) (jf b h n c F ok T hT r k hr hk h1 hx h2 h3)
  ·have hs:c.shut=false:=by
    unfold Ti at h3
    simp only at h3
    cases hs:c.shut with
    | false=>rfl
    | true=>rw [hs] at h3;simp at h3
   exact own (.inr rfl) (.inr rfl) (.inl rfl) (dD b h n c F ok T hT h1 hx h2 hs)
 ·rw [Tv e]
  unfold Kq at e ⊢
  cases hp:BU T with
  | none=>exact own (.inr rfl) (.inr rfl) (.inr rfl) (zo b h n c F ok T hT hp)
  | some o =>
   rw [hp] at e
   simp only at e ⊢
   by_cases hl:100 <= c.orders.length
   ·rw [if_pos hl];exact own (.inr rfl) (.inr rfl) (.inr rfl) (pK b h n c F ok T hT hp hl)
   ·rw [if_neg hl] at e ⊢
    rcases Sq hp with ⟨rfl,hx⟩ | ⟨k,rfl,hx,hk⟩ | ⟨i,m,rfl,hx,hi,hm⟩ | ⟨r,k,rfl,hx,hr,hk⟩ | ⟨rfl,hx⟩
    ·exact absurd rfl e
    ·exact own (.inr rfl) (.inr rfl) (.inr rfl) (ji b h n c F ok T hT k hk hp hx (by omega) e)
    ·exact own (.inr rfl) (.inr rfl) (.inr rfl) (dH b h n c F ok T hT i m hi hm hp hx (by omega) e)
    ·exact own (.inr rfl) (.inr rfl) (.inr rfl) (jg b h n c F ok T hT r k hr hk hp hx (by omega) e)
    ·have hs:c.shut=true:=by
      unfold Ti at e
      simp only at e
      cases hs:c.shut with
      | true=>rfl
      | false=>rw [hs] at e;simp at e
     have e5:Ti b c (4,[])=5:=by unfold Ti;simp only;rw [if_pos hs]
     rw [e5]
     exact own (.inr rfl) (.inr rfl) (.inr rfl) (dF b h n c F ok T hT hp hx (by omega) hs)
end Go.Ab.Tryz
