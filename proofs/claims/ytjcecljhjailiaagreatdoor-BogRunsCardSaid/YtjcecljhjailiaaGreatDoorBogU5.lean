/- The functions of the bog laws: cuttings, part 79. The walks are written by wip/gen/gw.py. -/
import Derived.Test.YtjcecljhjailiaaGreatDoorBogU4
import Derived.Test.YtjcecljhjailiaaGreatDoorBogS5
import Derived.Test.YtjcecljhjailiaaGreatDoorBogG07
set_option linter.all false
namespace Go.Ab.Tryz
open Go Go.Ab Go.Proofs Go.Ab.Ci Go.Ab.Gx
open Go.Ab.Heap (Az Ah BZ)
open Go.Ab.Heap (Hp Et validate sm)
theorem ip35:Lp Tryz.prog 35=true:=by kernel_rfl
theorem qY (f:Fm) (L:List Tx) (i:Nat):aD f.bog f.heaps f.need (Ny f L i):=wS.run _
noncomputable def kU (b:Bg) (h:Hp) (n:Int) (L:List Tx) (i:Nat):List Int:=(List.range i).map fun j=>Kq b (cR b h n L j) (L.getD j [])
abbrev yC (L:List Int):BG:=⟨L.map fun q=>.dv (.int .i64 q),1,39,0,true⟩
theorem gW {b:Bg} {h:Hp} {n:Int} {L:List Tx} {i:Nat}:(kU b h n L i).length=i:=by simp [kU]
theorem uz {b:Bg} {h:Hp} {n:Int} {L:List Tx} {i:Nat} (hi:i < L.length):((kU b h n L i).map fun q=>SV.dv (.int .i64 q)) ++ [SV.dv (.int .i64 (Kq b (cR b h n L i) L[i]))]=(kU b h n L (i+1)).map fun q=>SV.dv (.int .i64 q):=by
 unfold kU
 rw [List.range_succ,List.map_append,List.map_append]
 simp [hi]
theorem A3O {b:Bg} {h:Hp} {n:Int} {L:List Tx} {i:Nat} (hi:i < L.length):(kU b h n L L.length)[i]?=some (Kq b (cR b h n L i) L[i]):=by
 unfold kU
 rw [List.getElem?_map,List.getElem?_range hi]
 simp [hi]
set_option maxHeartbeats 2000000 in
theorem uw (f:Fm) (hf:Er f) (L:List Tx) (hk:L.length <= 9223372036854775807) (hE:newE f.bog f.heaps f.need ≠ 0):AR Tryz.prog 13 [LK f,Gi L] (.one (.dv (.bool true))):=by
 refine Bu Tryz.func13 rfl rfl (by rw [Tryz.ntmps13];simp) fun cx hP hn hg=>?_
 rw [Tryz.ntmps13] at hn
 rw [Bq,Bp]
 simp only [List.nil_append,List.append_nil,List.cons_append,BF,Nat.reduceAdd]
 refine sg ?_
 refine qp BX ?_
 refine qv A9 ?_
 refine AJ ?_
 refine sg ?_
 refine qv (AQ EN Eh) ?_
 refine Bo (f18 f hf.1 hf.2) ?_
 refine qx A8 (fun GI=>?_) (fun GI=>?_)
 ·try simp at GI
  iterate 2 refine qk ?_
  refine qv Ai ?_
  refine Dw (hb:=by first | rfl | simp | simp_all) (ht:=?_)
  refine sg ?_
  refine Bo (f20) ?_
  refine qv A9 ?_
  refine AP ?_
  exact x1 (hr:=(DX))
 ·try simp at GI
  refine qv A8 ?_
  refine Bo (f19 L hk) ?_
  refine qv Ai ?_
  refine cd (fun hc0=>?_) (fun hc0=>?_)
  ·skip
   refine sg ?_
   refine Bo (f20) ?_
   refine qv A9 ?_
   refine AP ?_
   exact x1 (hr:=(DX))
  ·skip
   obtain ⟨hF,NY,NW⟩:=E9 (by simpa using hc0)
   have Oh:(L.take 30).length <= 30:=by simp;omega
   have htx:∀ i (hi:i < (L.take 30).length),(L.take 30)[i].length < 2000000:=fun i hi=>by rw [List.getElem_take];exact hF.2 i (by simp at hi;omega)
   refine AY ?_
   refine sg ?_
   refine qv (AQ EN Eh) ?_
   refine Dx (Kn f hE) [] [] [] ?_
   refine qv A8 ?_
   iterate 3 refine qv Bf ?_
   iterate 3 refine qv A9 ?_
   refine AJ ?_
   refine sg ?_
   refine qv A8 ?_
   refine qv Bn ?_
   refine Dw (hb:=(by rfl)) (ht:=?_)
   refine sg ?_
   refine qv (AQ EN Eh) ?_
   refine Bo (f22 f hE) ?_
   refine qv A9 ?_
   refine AP ?_
   exact x1 (hr:=(DX))
set_option maxHeartbeats 4000000 in
set_option maxRecDepth 100000 in
theorem zq (f:Fm) (hf:Er f) (L:List Tx) (hk:L.length <= 9223372036854775807) (hE:newE f.bog f.heaps f.need=0):AR Tryz.prog 13 [LK f,Gi L] (.one (.dv (.bool true))):=by
 have F:=Ga hE
 refine Bu Tryz.func13 rfl rfl (by rw [Tryz.ntmps13];simp) fun cx hP hn hg=>?_
 rw [Tryz.ntmps13] at hn
 rw [Bq,Bp]
 simp only [List.nil_append,List.append_nil,List.cons_append,BF,Nat.reduceAdd]
 refine sg ?_
 refine qp BX ?_
 refine qv A9 ?_
 refine AJ ?_
 refine sg ?_
 refine qv (AQ EN Eh) ?_
 refine Bo (f18 f hf.1 hf.2) ?_
 refine qx A8 (fun GI=>?_) (fun GI=>?_)
 ·try simp at GI
  iterate 2 refine qk ?_
  refine qv Ai ?_
  refine Dw (hb:=by first | rfl | simp | simp_all) (ht:=?_)
  refine sg ?_
  refine Bo (f20) ?_
  refine qv A9 ?_
  refine AP ?_
  exact x1 (hr:=(DX))
 ·try simp at GI
  refine qv A8 ?_
  refine Bo (f19 L hk) ?_
  refine qv Ai ?_
  refine cd (fun hc0=>?_) (fun hc0=>?_)
  ·skip
   refine sg ?_
   refine Bo (f20) ?_
   refine qv A9 ?_
   refine AP ?_
   exact x1 (hr:=(DX))
  ·skip
   obtain ⟨hF,NY,NW⟩:=E9 (by simpa using hc0)
   have Oh:(L.take 30).length <= 30:=by simp;omega
   have htx:∀ i (hi:i < (L.take 30).length),(L.take 30)[i].length < 2000000:=fun i hi=>by rw [List.getElem_take];exact hF.2 i (by simp at hi;omega)
   refine AY ?_
   refine sg ?_
   refine qv (AQ EN Eh) ?_
   refine Dx (Km f hE) [] [] [100000,100001,100002,100003,100004,100005] ?_
   refine qv A8 ?_
   iterate 3 refine qv Bf ?_
   iterate 3 refine qv A9 ?_
   refine AJ ?_
   refine sg ?_
   refine qv A8 ?_
   refine qv Bn ?_
   refine Cv (hb:=(by rfl)) (ht:=?_)
   refine AY ?_
   refine sg ?_
   refine qv A8 ?_
   refine sQ (f23 L (by omega)) ?_
   refine qv A9 ?_
   refine AJ ?_
   refine sg ?_
   refine qv A9 ?_
   refine BD ?_
   refine Ag (ι:=Nat) (fun i=>⟨lk [(1,.dv (.list (((L.take 30)).map CY))),(5,.pt 100000 0 0),(8,.dv (i64 (i:Nat)))],AA [(100000,0,some (Jg f.bog f.heaps f.need (Ny f L i))),(100001,0,some (Cy ((Ny f L i)).orders 0))]⟩) (fun i=>i <= (L.take 30).length) (fun i=>(L.take 30).length - i) 0 (by simp) (tl [(100000,100000),(100001,100001)] (hF:=by simp [Ck,Aa,lk,AA,isLive,Ac,Zu,cs0]) (hM:=by simp [CV,Al,Aa,Ae,lk,AA,isLive,Ac,BK,BJ,Af,BI,BL,BO,BM,BN,Zu,cs0])) ?_
   intro i Aj
   refine AJ ?_
   refine sg ?_
   iterate 2 refine qv A8 ?_
   refine qv (BH Dg) ?_
   refine qv BQ ?_
   refine cd (fun hc2=>?_) (fun hc2=>?_)
   ·try simp at hc2
    refine AY ?_
    refine AJ ?_
    refine BD ?_
    refine sg ?_
    have hi:i < (L.take 30).length:=by simp only [List.length_take];omega
    have hx:(L.take 30)[i]?=some (L.take 30)[i]:=List.getElem?_eq_getElem hi
    have Sr:=PS f hE L i
    have nE:=PS f hE L (i+1)
    have hst:=Rp (f:=f) hi
    have hdo:=f24 f.bog f.heaps f.need (Ny f L i) F Sr (L.take 30)[i] (htx i hi)
    rw [<- hst] at hdo
    iterate 3 refine qv A8 ?_
    first | refine qv (BA CF DZ) ?_ | refine qv (Bd CF DZ) ?_
    refine qv (Bb DZ Mk) ?_
    refine Dx (hdo) [] [(100000,100000),(100001,100001)] [100000,100001] ?_
    refine sg ?_
    refine qv A8 ?_
    refine qv Qn ?_
    refine qv Bv ?_
    refine qx A8 (fun zI=>?_) (fun zI=>?_)
    ·try simp at zI
     refine qv A8 ?_
     refine Dx (f49 f.bog f.heaps f.need (Ny f L (i+1)) F nE (qY f L (i+1))) [] [(100000,100000),(100001,100001)] [100000,100001] ?_
     refine qv Bn ?_
     refine qv Ai ?_
     refine Cv (hb:=(by first | rfl | (simp;done) | simp_all)) (ht:=?_)
     refine AY ?_
     refine rg ?_
     refine qv A8 ?_
     refine qv Am ?_
     refine qv A9 ?_
     exact ⟨i+1,hi,(by simp only;omega),(tl [(100000,100000),(100001,100001)])⟩
    ·try simp at zI
     iterate 3 refine qk ?_
     refine qv Ai ?_
     refine Cv (hb:=by first | rfl | simp | simp_all) (ht:=?_)
     refine AY ?_
     refine rg ?_
     refine qv A8 ?_
     refine qv Am ?_
     refine qv A9 ?_
     exact ⟨i+1,hi,(by simp only;omega),(tl [(100000,100000),(100001,100001)])⟩
   ·try simp at hc2
    refine Ad ?_
    refine sg ?_
    refine qv A8 ?_
    refine Dx (f49 f.bog f.heaps f.need (Ny f L i) F (PS f hE L i) (qY f L i)) [] [(100000,100000),(100001,100001)] [100000,100001] ?_
    refine qx A8 (fun oI=>?_) (fun oI=>?_)
    rotate_left
    ·exact absurd oI ((by simp))
    refine Bo (f20) ?_
    refine qv Ai ?_
    refine qv A9 ?_
    refine AP ?_
    exact x1 (hr:=(DX))
theorem f13 (f:Fm) (hf:Er f) (L:List Tx) (hk:L.length <= 9223372036854775807):AR Tryz.prog 13 [LK f,Gi L] (.one (.dv (.bool true))):=by
 by_cases hE:newE f.bog f.heaps f.need=0
 ·exact zq f hf L hk hE
 ·exact uw f hf L hk hE
set_option maxHeartbeats 2000000 in
theorem uo (b:Bg) (h:Hp) (n:Int) (L:List Tx) (hE:newE b h n ≠ 0):Aw Tryz.prog 32 [.dv (KJ b),.dv (Et h),.dv (i64 n),.dv (Gi L)] (Ba []) ⟨[.dv (ints []),.dv (CY []),.dv (i64 (newE b h n))],Ba []⟩:=by
 refine DC Tryz.func32 rfl rfl (by rw [Tryz.ntmps32];simp) fun cx hP hn hg=>?_
 rw [Tryz.ntmps32] at hn
 refine Bj ?_
 refine sg ?_
 iterate 2 refine qp BX ?_
 iterate 3 refine qv A9 ?_
 refine sg ?_
 refine qv (AQ D9 DW) ?_
 refine qv (AQ Cq Cr) ?_
 refine qv A8 ?_
 refine Dx (Rl b h n hE) [] [] [] ?_
 refine qv A8 ?_
 iterate 2 refine qv Bf ?_
 iterate 2 refine qv A9 ?_
 refine AJ ?_
 refine sg ?_
 refine qv A8 ?_
 refine qv BP ?_
 refine Dw (hb:=(by simp [hE])) (ht:=?_)
 refine sg ?_
 refine qv A8 ?_
 iterate 3 refine qv A9 ?_
 refine AP ?_
 exact xg [] (h1:=by simp [Ae,Aa,isLive,Ac,Ba,AA,Ch,BJ,Dv,lk];exact .Bw)
set_option maxHeartbeats 2000000 in
theorem pJ (b:Bg) (h:Hp) (n:Int) (L:List Tx) (hE:newE b h n=0) (hl:100 < L.length):Aw Tryz.prog 32 [.dv (KJ b),.dv (Et h),.dv (i64 n),.dv (Gi L)] (Ba []) ⟨[.dv (ints []),.dv (CY []),.dv (i64 3)],Ba []⟩:=by
 refine DC Tryz.func32 rfl rfl (by rw [Tryz.ntmps32];simp) fun cx hP hn hg=>?_
 rw [Tryz.ntmps32] at hn
 refine Bj ?_
 refine sg ?_
 iterate 2 refine qp BX ?_
 iterate 3 refine qv A9 ?_
 refine sg ?_
 refine qv (AQ D9 DW) ?_
 refine qv (AQ Cq Cr) ?_
 refine qv A8 ?_
 refine Dx (Ng b h n hE) [] [] [100000,100001] ?_
 refine qv A8 ?_
 iterate 2 refine qv Bf ?_
 iterate 2 refine qv A9 ?_
 refine AJ ?_
 refine sg ?_
 refine qv A8 ?_
 refine qv BP ?_
 refine Cv (hb:=(by rfl)) (ht:=?_)
 refine AY ?_
 refine AJ ?_
 refine sg ?_
 refine qv A8 ?_
 refine qv (BH Dg) ?_
 refine qv Dj ?_
 refine Dw (hb:=(by simp;omega)) (ht:=?_)
 refine sg ?_
 iterate 3 refine qv A9 ?_
 refine AP ?_
 exact xg [] (h1:=by simp [Ae,Aa,isLive,Ac,Ba,AA,Ch,BJ,Dv,lk];exact .Bw)
set_option maxHeartbeats 4000000 in
set_option maxRecDepth 100000 in
theorem zn (b:Bg) (h:Hp) (n:Int) (L:List Tx) (hE:newE b h n=0) (hl:L.length <= 100) (htx:∀ i (hi:i < L.length),L[i].length < 2000000):Aw Tryz.prog 32 [.dv (KJ b),.dv (Et h),.dv (i64 n),.dv (Gi L)] (Ba []) ⟨[.sl 100000 0 0 L.length,.dv (CY (Co 0 (cR b h n L L.length).orders)),.dv (i64 0)],Ba [(100000,yC (kU b h n L L.length))]⟩:=by
 have F:=Ga hE
 refine DC Tryz.func32 rfl rfl (by rw [Tryz.ntmps32];simp) fun cx hP hn hg=>?_
 rw [Tryz.ntmps32] at hn
 refine Bj ?_
 refine sg ?_
 iterate 2 refine qp BX ?_
 iterate 3 refine qv A9 ?_
 refine sg ?_
 refine qv (AQ D9 DW) ?_
 refine qv (AQ Cq Cr) ?_
 refine qv A8 ?_
 refine Dx (Ng b h n hE) [] [] [100000,100001] ?_
 refine qv A8 ?_
 iterate 2 refine qv Bf ?_
 iterate 2 refine qv A9 ?_
 refine AJ ?_
 refine sg ?_
 refine qv A8 ?_
 refine qv BP ?_
 refine Cv (hb:=(by rfl)) (ht:=?_)
 refine AY ?_
 refine AJ ?_
 refine sg ?_
 refine qv A8 ?_
 refine qv (BH Dg) ?_
 refine qv Dj ?_
 refine Cv (hb:=(by simp;omega)) (ht:=?_)
 refine AY ?_
 refine sg ?_
 refine qv A9 ?_
 refine AJ ?_
 refine sg ?_
 refine qv A8 ?_
 refine qv (BH Dg) ?_
 refine qv A8 ?_
 refine BD ?_
 refine Ag (ι:=Nat) (fun i=>⟨lk [(11,.pt 100000 0 0),(13,.sl 13 0 0 i),(29,.dv (.list ((L).map CY))),(30,.dv (i64 ((L.length:Int)))),(31,.dv (i64 (i:Nat)))],AA [(100000,0,some (Jg b h n (cR b h n L i))),(13,0,some (yC (kU b h n L i))),(100001,0,some (Cy ((cR b h n L i)).orders 0))]⟩) (fun i=>i <= L.length) (fun i=>L.length - i) 0 (by simp) (tl [(100000,100000),(100001,100001)] (hF:=by simp [Ck,Aa,lk,AA,isLive,Ac,R6,cs0,CR,kU]) (hM:=by simp [CV,Al,Aa,Ae,lk,AA,isLive,Ac,BK,BJ,Af,BI,BL,BO,BM,BN,R6,cs0,CR,kU])) ?_
 intro i Aj
 refine sg ?_
 refine qv BQ ?_
 refine AJ ?_
 refine cd (fun hc2=>?_) (fun hc2=>?_)
 ·try simp at hc2
  refine AY ?_
  refine AJ ?_
  refine BD ?_
  refine sg ?_
  have hi:i < L.length:=by omega
  have hx:L[i]?=some L[i]:=List.getElem?_eq_getElem hi
  have Sr:=P7 F L i
  have hst:=Gm (b:=b) (h:=h) (n:=n) (c:=cs0 b.worth.length) hi
  have hdo:=f24 b h n (cR b h n L i) F Sr L[i] (htx i hi)
  rw [show Mx b h n (cR b h n L i) L[i]=cR b h n L (i+1) from hst.symm] at hdo
  have hsn:=uz (b:=b) (h:=h) (n:=n) hi
  have hel:=gW (b:=b) (h:=h) (n:=n) (L:=L) (i:=i)
  first | refine qv (BA CF DZ) ?_ | refine qv (Bd CF DZ) ?_
  refine qv (Bb DZ Mk) ?_
  refine qv A9 ?_
  refine rg ?_
  iterate 3 refine qv A8 ?_
  refine Dx (hdo) [] [(100000,100000),(100001,100001)] [100000,100001] ?_
  refine qr (D7 vC A1H rV) ?_
  refine Qg (DK vC vC A1H rV by39 (hc:=hsn)) ?_
  refine qv A9 ?_
  refine rg ?_
  refine qv Am ?_
  refine qv A8 ?_
  exact ⟨i+1,hi,(by simp only;omega),(tl [(100000,100000),(13,40),(100001,100001)] (hF:=by simp [Ck,Aa,lk,AA,isLive,Ac,CR]) (hM:=by simp [CV,Al,Aa,Ae,lk,AA,isLive,Ac,BK,BJ,Af,BI,BL,BO,BM,BN,CR]))⟩
 ·try simp at hc2
  obtain rfl:i=L.length:=by omega
  refine Ad ?_
  refine sg ?_
  iterate 2 refine qv A8 ?_
  refine Dx (f34 b h n (cR b h n L L.length) F (P7 F L L.length)) [] [(100000,100000),(100001,100001)] [100000,100001] ?_
  iterate 3 refine qv A9 ?_
  refine AP ?_
  exact xg [(100000,13)]
set_option maxHeartbeats 4000000 in
theorem zf (f:Fm) (hf:Er f) (L:List Tx) (hk:L.length <= 9223372036854775807) (hE:newE f.bog f.heaps f.need ≠ 0):AR Tryz.prog 5 [LK f,Gi L] (.one (.dv (.bool true))):=by
 refine Bu Tryz.func5 rfl rfl (by rw [Tryz.ntmps5];simp) fun cx hP hn hg=>?_
 rw [Tryz.ntmps5] at hn
 rw [Bq,Bp]
 simp only [List.nil_append,List.append_nil,List.cons_append,BF,Nat.reduceAdd]
 refine sg ?_
 refine qp BX ?_
 refine qv A9 ?_
 refine AJ ?_
 refine sg ?_
 refine qv (AQ EN Eh) ?_
 refine Bo (f18 f hf.1 hf.2) ?_
 refine qx A8 (fun Ia=>?_) (fun Ia=>?_)
 ·try simp at Ia
  iterate 2 refine qk ?_
  refine qv Ai ?_
  refine Dw (hb:=by first | rfl | simp | simp_all) (ht:=?_)
  refine sg ?_
  refine Bo (f20) ?_
  refine qv A9 ?_
  refine AP ?_
  exact x1 (hr:=(DX))
 ·try simp at Ia
  refine qv A8 ?_
  refine Bo (f19 L hk) ?_
  refine qv Ai ?_
  refine cd (fun hc0=>?_) (fun hc0=>?_)
  ·skip
   refine sg ?_
   refine Bo (f20) ?_
   refine qv A9 ?_
   refine AP ?_
   exact x1 (hr:=(DX))
  ·skip
   obtain ⟨hF,NY,NW⟩:=E9 (by simpa using hc0)
   have htx:∀ i (hi:i < L.length),L[i].length < 2000000:=fun i hi=>hF.2 i hi
   refine AY ?_
   refine sg ?_
   refine qv (AB E5) ?_
   refine qv (AQ D9 DW) ?_
   refine qv (AB EJ) ?_
   refine qv (AQ Cq Cr) ?_
   refine qv (AB FK) ?_
   refine qv (AL Ak Br) ?_
   refine qv A8 ?_
   refine Dx (uo f.bog f.heaps f.need L hE) [] [] [] ?_
   refine qv A8 ?_
   iterate 3 refine qv Bf ?_
   iterate 3 refine qv A9 ?_
   refine sg ?_
   refine qv (AQ EN Eh) ?_
   refine Dx (Kn f hE) [] [] [] ?_
   refine qv A8 ?_
   iterate 3 refine qv Bf ?_
   iterate 3 refine qv A9 ?_
   refine AJ ?_
   refine sg ?_
   refine qv A8 ?_
   refine qv Bn ?_
   refine Dw (hb:=(by rfl)) (ht:=?_)
   refine sg ?_
   refine qv (AB E5) ?_
   refine qv (AQ D9 DW) ?_
   refine qv (AB EJ) ?_
   refine qv (AQ Cq Cr) ?_
   refine qv (AB FK) ?_
   refine qv (AL Ak Br) ?_
   refine Dx (Rm f.bog f.heaps f.need hE) [] [] [] ?_
   refine qv A8 ?_
   iterate 2 refine qv Bf ?_
   iterate 2 refine qv A9 ?_
   refine sg ?_
   iterate 2 refine qv A8 ?_
   refine qv Bv ?_
   refine qx A8 (fun oH=>?_) (fun oH=>?_)
   rotate_left
   ·exact absurd oH ((by simp))
   refine qv A8 ?_
   refine qv BP ?_
   refine qv Ai ?_
   refine qx A8 (fun NU=>?_) (fun NU=>?_)
   rotate_left
   ·exact absurd NU ((by simp [hE]))
   refine qv A8 ?_
   first | refine qv (BH bU) ?_ | refine qv (Cg bU) ?_ | refine qv (TB bU) ?_
   refine qv Bv ?_
   refine qv Ai ?_
   refine qx A8 (fun oD=>?_) (fun oD=>?_)
   rotate_left
   ·exact absurd oD ((by simp))
   refine qv A8 ?_
   refine qv D5 ?_
   refine qv Ai ?_
   refine qx A8 (fun IQ=>?_) (fun IQ=>?_)
   rotate_left
   ·exact absurd IQ ((by simp))
   refine qv A8 ?_
   refine qv (P:=Tryz.prog) (by simp only [AZ,EM,Gl,EI,LW,Option.map_some,St.look,St.ev,lk,AA,AV,Au,Ar,reduceIte,Nat.reduceAdd,Nat.reduceEqDiff,Nat.reduceMul,ip35,if_true];rfl) ?_
   refine qv Ai ?_
   refine qx A8 (fun R3=>?_) (fun R3=>?_)
   rotate_left
   ·exact absurd R3 ((by simp))
   refine Bo (f20) ?_
   refine qv Ai ?_
   refine qv A9 ?_
   refine AP ?_
   exact x1 (hr:=(DX))
set_option maxHeartbeats 4000000 in
set_option maxRecDepth 100000 in
theorem uf (f:Fm) (hf:Er f) (L:List Tx) (hk:L.length <= 9223372036854775807) (hE:newE f.bog f.heaps f.need=0) (hl:100 < L.length):AR Tryz.prog 5 [LK f,Gi L] (.one (.dv (.bool true))):=by
 refine Bu Tryz.func5 rfl rfl (by rw [Tryz.ntmps5];simp) fun cx hP hn hg=>?_
 rw [Tryz.ntmps5] at hn
 rw [Bq,Bp]
 simp only [List.nil_append,List.append_nil,List.cons_append,BF,Nat.reduceAdd]
 refine sg ?_
 refine qp BX ?_
 refine qv A9 ?_
 refine AJ ?_
 refine sg ?_
 refine qv (AQ EN Eh) ?_
 refine Bo (f18 f hf.1 hf.2) ?_
 refine qx A8 (fun Ia=>?_) (fun Ia=>?_)
 ·try simp at Ia
  iterate 2 refine qk ?_
  refine qv Ai ?_
  refine Dw (hb:=by first | rfl | simp | simp_all) (ht:=?_)
  refine sg ?_
  refine Bo (f20) ?_
  refine qv A9 ?_
  refine AP ?_
  exact x1 (hr:=(DX))
 ·try simp at Ia
  refine qv A8 ?_
  refine Bo (f19 L hk) ?_
  refine qv Ai ?_
  refine cd (fun hc0=>?_) (fun hc0=>?_)
  ·skip
   refine sg ?_
   refine Bo (f20) ?_
   refine qv A9 ?_
   refine AP ?_
   exact x1 (hr:=(DX))
  ·skip
   obtain ⟨hF,NY,NW⟩:=E9 (by simpa using hc0)
   have htx:∀ i (hi:i < L.length),L[i].length < 2000000:=fun i hi=>hF.2 i hi
   refine AY ?_
   refine sg ?_
   refine qv (AB E5) ?_
   refine qv (AQ D9 DW) ?_
   refine qv (AB EJ) ?_
   refine qv (AQ Cq Cr) ?_
   refine qv (AB FK) ?_
   refine qv (AL Ak Br) ?_
   refine qv A8 ?_
   refine Dx (pJ f.bog f.heaps f.need L hE hl) [] [] [] ?_
   refine qv A8 ?_
   iterate 3 refine qv Bf ?_
   iterate 3 refine qv A9 ?_
   refine sg ?_
   refine qv (AQ EN Eh) ?_
   refine Dx (Km f hE) [] [] [100000,100001,100002,100003,100004,100005] ?_
   refine qv A8 ?_
   iterate 3 refine qv Bf ?_
   iterate 3 refine qv A9 ?_
   refine AJ ?_
   refine sg ?_
   refine qv A8 ?_
   refine qv Bn ?_
   refine Cv (hb:=(by rfl)) (ht:=?_)
   refine AY ?_
   refine AJ ?_
   refine sg ?_
   refine qv A8 ?_
   refine qv (BH Dg) ?_
   refine qv Dj ?_
   refine Dw (hb:=(by simp;omega)) (ht:=?_)
   refine sg ?_
   refine qv A8 ?_
   refine qv Bv ?_
   refine qx A8 (fun A2W=>?_) (fun A2W=>?_)
   rotate_left
   ·exact absurd A2W ((by simp))
   refine qv A8 ?_
   first | refine qv (BH bU) ?_ | refine qv (Cg bU) ?_ | refine qv (TB bU) ?_
   refine qv Bv ?_
   refine qv Ai ?_
   refine qx A8 (fun o9=>?_) (fun o9=>?_)
   rotate_left
   ·exact absurd o9 ((by simp))
   refine qv A8 ?_
   refine qv D5 ?_
   refine qv Ai ?_
   refine qx A8 (fun A2V=>?_) (fun A2V=>?_)
   rotate_left
   ·exact absurd A2V ((by simp))
   refine Bo (f20) ?_
   refine qv Ai ?_
   refine qv A9 ?_
   refine AP ?_
   exact x1 (hr:=(DX))
set_option maxHeartbeats 4000000 in
set_option maxRecDepth 100000 in
theorem A3J (f:Fm) (hf:Er f) (L:List Tx) (hk:L.length <= 9223372036854775807) (hE:newE f.bog f.heaps f.need=0) (hl:L.length <= 100):AR Tryz.prog 5 [LK f,Gi L] (.one (.dv (.bool true))):=by
 have F:=Ga hE
 refine Bu Tryz.func5 rfl rfl (by rw [Tryz.ntmps5];simp) fun cx hP hn hg=>?_
 rw [Tryz.ntmps5] at hn
 rw [Bq,Bp]
 simp only [List.nil_append,List.append_nil,List.cons_append,BF,Nat.reduceAdd]
 refine sg ?_
 refine qp BX ?_
 refine qv A9 ?_
 refine AJ ?_
 refine sg ?_
 refine qv (AQ EN Eh) ?_
 refine Bo (f18 f hf.1 hf.2) ?_
 refine qx A8 (fun Ia=>?_) (fun Ia=>?_)
 ·try simp at Ia
  iterate 2 refine qk ?_
  refine qv Ai ?_
  refine Dw (hb:=by first | rfl | simp | simp_all) (ht:=?_)
  refine sg ?_
  refine Bo (f20) ?_
  refine qv A9 ?_
  refine AP ?_
  exact x1 (hr:=(DX))
 ·try simp at Ia
  refine qv A8 ?_
  refine Bo (f19 L hk) ?_
  refine qv Ai ?_
  refine cd (fun hc0=>?_) (fun hc0=>?_)
  ·skip
   refine sg ?_
   refine Bo (f20) ?_
   refine qv A9 ?_
   refine AP ?_
   exact x1 (hr:=(DX))
  ·skip
   obtain ⟨hF,NY,NW⟩:=E9 (by simpa using hc0)
   have htx:∀ i (hi:i < L.length),L[i].length < 2000000:=fun i hi=>hF.2 i hi
   refine AY ?_
   refine sg ?_
   refine qv (AB E5) ?_
   refine qv (AQ D9 DW) ?_
   refine qv (AB EJ) ?_
   refine qv (AQ Cq Cr) ?_
   refine qv (AB FK) ?_
   refine qv (AL Ak Br) ?_
   refine qv A8 ?_
   refine Dx (zn f.bog f.heaps f.need L hE hl htx) [] [] [100006] ?_
   refine qv A8 ?_
   iterate 3 refine qv Bf ?_
   iterate 3 refine qv A9 ?_
   refine sg ?_
   refine qv (AQ EN Eh) ?_
   refine Dx (Km f hE) [] [] [100000,100001,100002,100003,100004,100005] ?_
   refine qv A8 ?_
   iterate 3 refine qv Bf ?_
   iterate 3 refine qv A9 ?_
   refine AJ ?_
   refine sg ?_
   refine qv A8 ?_
   refine qv Bn ?_
   refine Cv (hb:=(by rfl)) (ht:=?_)
   refine AY ?_
   refine AJ ?_
   refine sg ?_
   refine qv A8 ?_
   refine qv (BH Dg) ?_
   refine qv Dj ?_
   refine Cv (hb:=(by simp;omega)) (ht:=?_)
   refine AY ?_
   refine AJ ?_
   refine sg ?_
   refine qv A8 ?_
   refine qv BP ?_
   refine qx A8 (fun A2U=>?_) (fun A2U=>?_)
   ·exact absurd A2U ((by simp))
   refine qv A8 ?_
   refine qv (Cg bU) ?_
   refine qv A8 ?_
   refine qv (BH Dg) ?_
   refine qv BP ?_
   refine qv Ai ?_
   refine Cv (hb:=(by simp)) (ht:=?_)
   refine AY ?_
   refine AJ ?_
   refine sg ?_
   refine qv A9 ?_
   refine BD ?_
   refine Ag (ι:=Nat) (fun i=>⟨lk [(1,.dv (.list ((L).map CY))),(5,.sl 100006 0 0 L.length),(6,.dv (CY (Co 0 (cR f.bog f.heaps f.need L L.length).orders))),(8,.pt 100000 0 0),(13,.dv (i64 (i:Nat)))],AA [(100006,0,some (yC (kU f.bog f.heaps f.need L L.length))),(100000,0,some (Jg f.bog f.heaps f.need (cR f.bog f.heaps f.need L i))),(100001,0,some (Cy ((cR f.bog f.heaps f.need L i)).orders 0))]⟩) (fun i=>i <= L.length) (fun i=>L.length - i) 0 (by simp) (tl [(100006,100006),(100000,100000),(100001,100001)] (hF:=by simp [Ck,Aa,lk,AA,isLive,Ac,R6,cs0]) (hM:=by simp [CV,Al,Aa,Ae,lk,AA,isLive,Ac,BK,BJ,Af,BI,BL,BO,BM,BN,R6,cs0])) ?_
   intro i Aj
   refine AJ ?_
   refine sg ?_
   iterate 2 refine qv A8 ?_
   refine qv (BH Dg) ?_
   refine qv BQ ?_
   refine cd (fun hc4=>?_) (fun hc4=>?_)
   ·try simp at hc4
    refine AY ?_
    refine AJ ?_
    refine BD ?_
    refine AJ ?_
    refine rd mixed ?_
    have hi:i < L.length:=by omega
    have hx:L[i]?=some L[i]:=List.getElem?_eq_getElem hi
    have Sr:=P7 F L i
    have hst:=Gm (b:=f.bog) (h:=f.heaps) (n:=f.need) (c:=cs0 f.bog.worth.length) hi
    have hdo:=f24 f.bog f.heaps f.need (cR f.bog f.heaps f.need L i) F Sr L[i] (htx i hi)
    rw [show Mx f.bog f.heaps f.need (cR f.bog f.heaps f.need L i) L[i]=cR f.bog f.heaps f.need L (i+1) from hst.symm] at hdo
    have hes:=A3O (b:=f.bog) (h:=f.heaps) (n:=f.need) hi
    have hel:=gW (b:=f.bog) (h:=f.heaps) (n:=f.need) (L:=L) (i:=L.length)
    iterate 3 refine zv A8 ?_
    first | refine zv (BA CF DZ) ?_ | refine zv (Bd CF DZ) ?_
    refine zv (Bb DZ Mk) ?_
    refine PX (hdo) [] [(100000,100000),(100001,100001)] [100000,100001] ?_
    iterate 2 refine zv A8 ?_
    refine zv (CB vC rV) ?_
    refine zv (EG rV ag39) ?_
    refine zv BP ?_
    refine ⟨by rfl,?_⟩
    refine Cv (hb:=(by simp)) (ht:=?_)
    refine AY ?_
    refine rg ?_
    refine qv A8 ?_
    refine qv Am ?_
    refine qv A9 ?_
    exact ⟨i+1,hi,(by simp only;omega),(tl [(100006,100006),(100000,100000),(100001,100001)])⟩
   ·try simp at hc4
    obtain rfl:i=L.length:=by omega
    refine Ad ?_
    refine sg ?_
    refine qv A8 ?_
    refine Dx (f34 f.bog f.heaps f.need (cR f.bog f.heaps f.need L L.length) F (P7 F L L.length)) [] [(100000,100000),(100001,100001)] [100000,100001] ?_
    refine qv A8 ?_
    refine qv D5 ?_
    refine qx A8 (fun xA=>?_) (fun xA=>?_)
    rotate_left
    ·exact absurd xA ((by simp))
    refine Bo (f20) ?_
    refine qv Ai ?_
    refine qv A9 ?_
    refine AP ?_
    exact x1 (hr:=(DX))
theorem f5 (f:Fm) (hf:Er f) (L:List Tx) (hk:L.length <= 9223372036854775807):AR Tryz.prog 5 [LK f,Gi L] (.one (.dv (.bool true))):=by
 by_cases hE:newE f.bog f.heaps f.need=0
 ·by_cases hl:L.length <= 100
  ·exact A3J f hf L hk hE hl
  ·exact uf f hf L hk hE (by omega)
 ·exact zf f hf L hk hE
end Go.Ab.Tryz
