/- BogCl, BogC2, BogC3. -/
import Derived.Test.YtjcecljhjailiaaGreatDoorBogG19
import Derived.Test.YtjcecljhjailiaaGreatDoorBogG07
set_option linter.all false
namespace Go.Ab.Tryz
open Go Go.Ab Go.Proofs Go.Ab.Ck
theorem f97x (l:List Int) (h:l.length < 2000000) (hl:l ≠ []):AR Tryz.prog 97 [ints l] (.one (rI l)):=by
 refine Bv Tryz.func97 rfl rfl (by rw [Tryz.ntmps97];simp) fun cx hP hn hg=>?_
 rw [Tryz.ntmps97] at hn
 rw [Br,Bq]
 simp only [BH,Nat.reduceAdd]
 refine AL ?_
 refine Db hg ?_
 refine Dn hP hn (by decide) trivial (EJ (by simp only [St.look,St.ev,lk,AA,AO,Ah,Ag,reduceIte,Nat.reduceAdd,Nat.reduceEqDiff,Nat.reduceMul];rfl)) ?_
 refine AL ?_
 refine AL ?_
 refine Db hg ?_
 refine Dn hP hn (by decide) trivial (I6 (by simp only [St.look,St.ev,lk,AA,AO,Ah,Ag,reduceIte,Nat.reduceAdd,Nat.reduceEqDiff,Nat.reduceMul];rfl)) ?_
 refine Dn hP hn (by decide) trivial (by simp only [AP,Dj,Om,Ir,Cj,if_true,Option.map_some,St.look,St.ev,lk,AA,AO,Ah,Ag,reduceIte,Nat.reduceAdd,Nat.reduceEqDiff,Nat.reduceMul];rw [if_neg (by simpa using hl)];rfl) ?_
 refine Fq (by simp only [St.look,St.ev,lk,AA,AO,Ah,Ag,reduceIte,Nat.reduceAdd,Nat.reduceEqDiff,Nat.reduceMul];rfl) (fun hc0=>?_) (fun hc0=>?_)
 ·exact absurd hc0 (by simp)
 refine Af ?_
 refine AL ?_
 refine Db hg ?_
 refine Xx hP hn (by decide) trivial (Fp (by simp only [List.map,St.look,St.ev,lk,AA,AO,Ah,Ag,reduceIte,Nat.reduceAdd,Nat.reduceEqDiff,Nat.reduceMul];rfl) BG Nu Aw rfl (by decide) (by decide) (by simp [EP,putCells,Cb,List.replicate];rfl)) rfl (by simp only [AA,reduceIte,Nat.reduceEqDiff];rfl) ?_
 refine Dn hP hn (by decide) trivial (I6 (by simp only [St.look,St.ev,lk,AA,AO,Ah,Ag,reduceIte,Nat.reduceAdd,Nat.reduceEqDiff,Nat.reduceMul];rfl)) ?_
 first
 | refine Rc hP hn (by decide) trivial (RP (by simp only [St.look,St.ev,lk,AA,AO,Ah,Ag,reduceIte,Nat.reduceAdd,Nat.reduceEqDiff,Nat.reduceMul];rfl) (by simp only [St.look,St.ev,lk,AA,AO,Ah,Ag,reduceIte,Nat.reduceAdd,Nat.reduceEqDiff,Nat.reduceMul];first | exact Hg | rfl | (simp [Ee,DI];rfl)) BG BG Nu Aw ZY (by first | omega | (simp;try omega)) (by first | omega | (simp;try omega)) rfl) (by simp only [AA,reduceIte,Nat.reduceEqDiff];rfl) ?_
 | refine VT hP hn (by decide) trivial (RO (by simp only [St.look,St.ev,lk,AA,AO,Ah,Ag,reduceIte,Nat.reduceAdd,Nat.reduceEqDiff,Nat.reduceMul];rfl) (by simp only [St.look,St.ev,lk,AA,AO,Ah,Ag,reduceIte,Nat.reduceAdd,Nat.reduceEqDiff,Nat.reduceMul];first | exact Hg | rfl | (simp [Ee,DI];rfl)) BG BG Nu Aw ZY (by rfl) (by rfl) (by rfl) (by first | omega | (simp;try omega)) (by first | omega | (simp;try omega)) (by first | omega | (simp;try omega)) rfl (by first | exact OI | exact Qz | rfl)) (by simp only [AA,reduceIte,Nat.reduceEqDiff];rfl) (by simp only [AA,reduceIte,Nat.reduceEqDiff];rfl) rfl ?_
 refine Dn hP hn (by decide) trivial (EJ (by simp only [St.look,St.ev,lk,AA,AO,Ah,Ag,reduceIte,Nat.reduceAdd,Nat.reduceEqDiff,Nat.reduceMul];rfl)) ?_
 refine AV ?_
 exact RN (.inr rfl) (by first | (simp only [lk,reduceIte,Nat.reduceEqDiff];done) | (simp only [lk,reduceIte,Nat.reduceEqDiff];rfl)) (Qb (by simp only [AA,reduceIte,Nat.reduceEqDiff];rfl) (by simp))
theorem f97n:AR Tryz.prog 97 [ints []] (.one (rI [])):=by
 refine Bv Tryz.func97 rfl rfl (by rw [Tryz.ntmps97];simp) fun cx hP hn hg=>?_
 rw [Tryz.ntmps97] at hn
 rw [Br,Bq]
 simp only [BH,Nat.reduceAdd]
 refine EF.split (t:=0) (by simp [lk]) fun b=>?_
 cases b
 ·skip
  refine AL ?_
  refine Db hg ?_
  refine Dn hP hn (by decide) trivial (EJ (by simp only [St.look,St.ev,lk,AA,AO,Ah,Ag,reduceIte,Nat.reduceAdd,Nat.reduceEqDiff,Nat.reduceMul];rfl)) ?_
  refine AL ?_
  refine AL ?_
  refine Db hg ?_
  refine Dn hP hn (by decide) trivial (I6 (by simp only [St.look,St.ev,lk,AA,AO,Ah,Ag,reduceIte,Nat.reduceAdd,Nat.reduceEqDiff,Nat.reduceMul];rfl)) ?_
  refine Dn hP hn (by decide) trivial (by simp only [AP,Dj,Om,Ir,Cj,if_true,Option.map_some,St.look,St.ev,lk,AA,AO,Ah,Ag,reduceIte,Nat.reduceAdd,Nat.reduceEqDiff,Nat.reduceMul];rfl) ?_
  refine Fq (by simp only [St.look,St.ev,lk,AA,AO,Ah,Ag,reduceIte,Nat.reduceAdd,Nat.reduceEqDiff,Nat.reduceMul];rfl) (fun hc0=>?_) (fun hc0=>?_)
  ·exact absurd hc0 (by simp)
  refine Af ?_
  refine AL ?_
  refine Db hg ?_
  refine Xx hP hn (by decide) trivial (Fp (by simp only [List.map,St.look,St.ev,lk,AA,AO,Ah,Ag,reduceIte,Nat.reduceAdd,Nat.reduceEqDiff,Nat.reduceMul];rfl) BG Nu Aw rfl (by decide) (by decide) (by simp [EP,putCells,Cb,List.replicate];rfl)) rfl (by simp only [AA,reduceIte,Nat.reduceEqDiff];rfl) ?_
  refine Dn hP hn (by decide) trivial (I6 (by simp only [St.look,St.ev,lk,AA,AO,Ah,Ag,reduceIte,Nat.reduceAdd,Nat.reduceEqDiff,Nat.reduceMul];rfl)) ?_
  first
  | refine Rc hP hn (by decide) trivial (RP (by simp only [St.look,St.ev,lk,AA,AO,Ah,Ag,reduceIte,Nat.reduceAdd,Nat.reduceEqDiff,Nat.reduceMul];rfl) (by simp only [St.look,St.ev,lk,AA,AO,Ah,Ag,reduceIte,Nat.reduceAdd,Nat.reduceEqDiff,Nat.reduceMul];first | exact Hg | rfl | (simp [Ee,DI];rfl)) BG BG Nu Aw ZY (by first | omega | (simp;try omega)) (by first | omega | (simp;try omega)) rfl) (by simp only [AA,reduceIte,Nat.reduceEqDiff];rfl) ?_
  | refine VT hP hn (by decide) trivial (RO (by simp only [St.look,St.ev,lk,AA,AO,Ah,Ag,reduceIte,Nat.reduceAdd,Nat.reduceEqDiff,Nat.reduceMul];rfl) (by simp only [St.look,St.ev,lk,AA,AO,Ah,Ag,reduceIte,Nat.reduceAdd,Nat.reduceEqDiff,Nat.reduceMul];first | exact Hg | rfl | (simp [Ee,DI];rfl)) BG BG Nu Aw ZY (by rfl) (by rfl) (by rfl) (by first | omega | (simp;try omega)) (by first | omega | (simp;try omega)) (by first | omega | (simp;try omega)) rfl (by first | exact OI | exact Qz | rfl)) (by simp only [AA,reduceIte,Nat.reduceEqDiff];rfl) (by simp only [AA,reduceIte,Nat.reduceEqDiff];rfl) rfl ?_
  refine Dn hP hn (by decide) trivial (EJ (by simp only [St.look,St.ev,lk,AA,AO,Ah,Ag,reduceIte,Nat.reduceAdd,Nat.reduceEqDiff,Nat.reduceMul];rfl)) ?_
  refine AV ?_
  exact RN (.inr rfl) (by first | (simp only [lk,reduceIte,Nat.reduceEqDiff];done) | (simp only [lk,reduceIte,Nat.reduceEqDiff];rfl)) (Qb (by simp only [AA,reduceIte,Nat.reduceEqDiff];rfl) (by simp))
 ·skip
  refine AL ?_
  refine Db hg ?_
  refine Dn hP hn (by decide) trivial (EJ (by simp only [St.look,St.ev,lk,AA,AO,Ah,Ag,reduceIte,Nat.reduceAdd,Nat.reduceEqDiff,Nat.reduceMul];rfl)) ?_
  refine AL ?_
  refine AL ?_
  refine Db hg ?_
  refine Dn hP hn (by decide) trivial (I6 (by simp only [St.look,St.ev,lk,AA,AO,Ah,Ag,reduceIte,Nat.reduceAdd,Nat.reduceEqDiff,Nat.reduceMul];rfl)) ?_
  refine Dn hP hn (by decide) trivial (by simp only [AP,Dj,Om,Ir,Cj,if_true,Option.map_some,St.look,St.ev,lk,AA,AO,Ah,Ag,reduceIte,Nat.reduceAdd,Nat.reduceEqDiff,Nat.reduceMul];rfl) ?_
  refine Fq (by simp only [St.look,St.ev,lk,AA,AO,Ah,Ag,reduceIte,Nat.reduceAdd,Nat.reduceEqDiff,Nat.reduceMul];rfl) (fun hc0=>?_) (fun hc0=>?_)
  rotate_left
  ·exact absurd hc0 (by simp)
  refine AL ?_
  refine Db hg ?_
  refine Dn hP hn (by decide) trivial (EJ (by simp only [St.look,St.ev,lk,AA,AO,Ah,Ag,reduceIte,Nat.reduceAdd,Nat.reduceEqDiff,Nat.reduceMul];rfl)) ?_
  refine AV ?_
  exact RN (.inr rfl) (by first | (simp only [lk,reduceIte,Nat.reduceEqDiff];done) | (simp only [lk,reduceIte,Nat.reduceEqDiff];rfl)) TI
theorem f97 (l:List Int) (h:l.length < 2000000):AR Tryz.prog 97 [ints l] (.one (rI l)):=by
 by_cases hl:l=[]
 ·subst hl;exact f97n
 ·exact f97x l h hl
end Go.Ab.Tryz
namespace Go.Ab.Tryz
open Go Go.Ab Go.Proofs Go.Ab.Ck
open Go.Ab.Heap (Az Ap BX)
theorem bW {b:Bg} {i:Nat} {j:Nat} (hj:j < (b.col i).length) (h:¬ (-50 <= Az (b.col i) j /\ Az (b.col i) j <= 50)):FX b.dep (b.col i)=false:=by
 have:(b.col i).any (fun w=>!CO w (-50) 50)=true:=List.any_eq_true.2 ⟨_,List.mem_of_getElem? (Ap hj),by
  simp only [Bool.not_eq_true']
  cases e:CO (Az (b.col i) j) (-50) 50 with
  | false=>rfl
  | true=>exact absurd (DL.1 e) h⟩
 unfold FX;rw [this];simp
theorem rQ {b:Bg} {i:Nat} (h:(b.col i).length ≠ b.dep):FX b.dep (b.col i)=false:=by
 unfold FX
 have:((b.col i).length == b.dep)=false:=by simpa using h
 rw [this];rfl
theorem xP {b:Bg} {i:Nat} (h:(b.col i).length=b.dep) (h2:∀ j,j < (b.col i).length -> -50 <= Az (b.col i) j /\ Az (b.col i) j <= 50):FX b.dep (b.col i)=true:=by
 unfold FX
 simp only [Bool.and_eq_true,beq_iff_eq,Bool.not_eq_true',List.any_eq_false,Bool.not_eq_false]
 refine ⟨h,fun x hx=>?_⟩
 obtain ⟨j,hj,rfl⟩:=List.getElem_of_mem hx
 have h3:=h2 j hj
 have h4:=Ap hj
 rw [List.getElem?_eq_getElem hj] at h4
 rw [Option.some.inj h4]
 exact DL.2 h3
theorem bZ {b:Bg} (h:¬ (1 <= b.worth.length /\ b.worth.length <= 6)):Nj b=1:=VY (by
 cases e:CO (b.worth.length:Int) 1 6 with
 | false=>rfl
 | true=>exact absurd (DL.1 e) (by omega))
theorem bn {b:Bg} (h:¬ (1 <= b.dep /\ b.dep <= 4)):Nj b=1:=VX (by
 cases e:CO (b.dep:Int) 1 4 with
 | false=>rfl
 | true=>exact absurd (DL.1 e) (by omega))
def ZA (x:Int) (l:List Int):Int:=if l.contains x then (l.findIdx (fun q=>q == x):Int) else -1
theorem pU {x:Int} {l:List Int} (h:∀ j (hj:j < l.length),l[j] ≠ x):ZA x l=-1:=by
 unfold ZA
 rw [if_neg]
 rw [List.contains_iff_mem]
 intro hx
 obtain ⟨j,hj,e⟩:=List.getElem_of_mem hx
 exact h j hj e
theorem pW {x:Int} {l:List Int} {i:Nat} (hi:i < l.length) (h:l[i]=x) (hb:∀ j (hj:j < l.length),j < i -> l[j] ≠ x):ZA x l=i:=by
 unfold ZA
 have hc:l.contains x=true:=by rw [List.contains_iff_mem];exact h ▸ List.getElem_mem hi
 rw [if_pos hc]
 congr 1
 rw [List.findIdx_eq hi]
 exact ⟨by simp [h],fun j hj=>by simpa using hb j (by omega) hj⟩
theorem pV {x:Int} {l:List Int}:decide (0 <= ZA x l)=l.contains x:=by
 unfold ZA
 cases l.contains x<;>simp<;>omega
theorem lC {a b:List Int} (hl:a.length=b.length) (h:∀ j,j < a.length -> Az a j=Az b j):a=b:=List.ext_getElem hl fun j h1 h2=>by
 have:=h j h1
 have e1:=Ap h1
 have e2:=Ap h2
 rw [List.getElem?_eq_getElem h1] at e1
 rw [List.getElem?_eq_getElem h2] at e2
 rw [Option.some.inj e1,Option.some.inj e2,this]
set_option maxHeartbeats 1000000 in
theorem f77 (b:Bg):AR Tryz.prog 77 [RX b] (.one (.dv (i64 (Nj b)))):=by
 refine Bv Tryz.func77 rfl rfl (by rw [Tryz.ntmps77];simp) fun cx hP hn hg=>?_
 rw [Tryz.ntmps77] at hn
 rw [Br,Bq]
 simp only [List.nil_append,List.append_nil,List.cons_append,BH,Nat.reduceAdd]
 refine sg ?_
 refine qp Bu ?_
 refine qv A9 ?_
 refine sg ?_
 refine qv (AB Ch) ?_
 refine qv (AQ DJ DW) ?_
 refine qv (BD KO) ?_
 refine qv A9 ?_
 refine AL ?_
 refine sg ?_
 refine qv A8 ?_
 refine qv BK ?_
 refine qx A8 (fun Lu=>?_) (fun Lu=>?_)
 ·try simp at Lu
  iterate 2 refine qk ?_
  refine qv Ae ?_
  refine qv A8 ?_
  iterate 6 refine qk ?_
  refine qv Ae ?_
  refine qv A8 ?_
  iterate 6 refine qk ?_
  refine qv Ae ?_
  refine G5 (hb:=by first | rfl | simp | simp_all) (ht:=?_)
  refine sg ?_
  refine qv A9 ?_
  refine AV ?_
  exact x1 (hr:=(Cc (by first | rw [bZ (by omega)] | rw [bn (by unfold Bg.dep;omega)])))
 ·try simp at Lu
  refine qv A8 ?_
  refine qv Dk ?_
  refine qv Ae ?_
  refine qx A8 (fun Sc=>?_) (fun Sc=>?_)
  ·try simp at Sc
   iterate 6 refine qk ?_
   refine qv Ae ?_
   refine qv A8 ?_
   iterate 6 refine qk ?_
   refine qv Ae ?_
   refine G5 (hb:=by first | rfl | simp | simp_all) (ht:=?_)
   refine sg ?_
   refine qv A9 ?_
   refine AV ?_
   exact x1 (hr:=(Cc (by first | rw [bZ (by omega)] | rw [bn (by unfold Bg.dep;omega)])))
  ·try simp at Sc
   have h01:0 < b.worth.length:=by omega
   have hg0:=Eu h01
   refine qv (AB Ch) ?_
   refine qv (AQ DJ DW) ?_
   first | refine qv (BF CJ Av) ?_ | refine qv (Bf CJ Av) ?_
   refine qv (Bb Av Bz) ?_
   refine qv (BD Cj) ?_
   refine qv BK ?_
   refine qv Ae ?_
   refine qx A8 (fun OP=>?_) (fun OP=>?_)
   ·try simp at OP
    iterate 6 refine qk ?_
    refine qv Ae ?_
    refine G5 (hb:=by first | rfl | simp | simp_all) (ht:=?_)
    refine sg ?_
    refine qv A9 ?_
    refine AV ?_
    exact x1 (hr:=(Cc (by first | rw [bZ (by omega)] | rw [bn (by unfold Bg.dep;omega)])))
   ·try simp at OP
    refine qv (AB Ch) ?_
    refine qv (AQ DJ DW) ?_
    first | refine qv (BF CJ Av) ?_ | refine qv (Bf CJ Av) ?_
    refine qv (Bb Av Bz) ?_
    refine qv (BD Cj) ?_
    refine qv Dk ?_
    refine qv Ae ?_
    refine cd (fun hc0=>?_) (fun hc0=>?_)
    ·try simp at hc0
     refine sg ?_
     refine qv A9 ?_
     refine AV ?_
     exact x1 (hr:=(Cc (by first | rw [bZ (by omega)] | rw [bn (by unfold Bg.dep;omega)])))
    ·try simp at hc0
     have h6:CO (b.worth.length:Int) 1 6=true:=DL.2 (by omega)
     have hd:CO (b.dep:Int) 1 4=true:=DL.2 (by unfold Bg.dep;omega)
     refine Af ?_
     refine AL ?_
     refine sg ?_
     refine qv A9 ?_
     refine BI ?_
     refine Ao (ι:=Nat) (fun i=>⟨lk [(1,.pt 1 0 0),(3,.dv (i64 ((b.worth.length:Int)))),(4,.dv (i64 (i:Nat)))],AA [(1,0,some ⟨[.dv (.list ((b.worth).map ints))],0,24,0,false⟩)]⟩) (fun i=>i <= b.worth.length /\ ∀ j,j < i -> FX b.dep (b.col j)=true) (fun i=>b.worth.length - i) 0 (by simp) (tl [(1,1)]) ?_
     intro i BM
     refine AL ?_
     refine sg ?_
     iterate 2 refine qv A8 ?_
     refine qv BK ?_
     refine cd (fun hc1=>?_) (fun hc1=>?_)
     ·try simp at hc1
      refine Af ?_
      refine AL ?_
      refine BI ?_
      refine AL ?_
      refine AL ?_
      have hi:i < b.worth.length:=by omega
      have hgc:=Eu hi
      refine rd mixed ?_
      refine zv (AB Ch) ?_
      refine zv (AQ DJ DW) ?_
      refine zv A8 ?_
      first | refine zv (BF CJ Av) ?_ | refine zv (Bf CJ Av) ?_
      refine zv (Bb Av Bz) ?_
      refine zv (BD Cj) ?_
      refine zv (AB Ch) ?_
      refine zv (AQ DJ DW) ?_
      first | refine zv (BF CJ Av) ?_ | refine zv (Bf CJ Av) ?_
      refine zv (Bb Av Bz) ?_
      refine zv (BD Cj) ?_
      refine zv Ay ?_
      refine ⟨by rfl,?_⟩
      refine cd (fun hc2=>?_) (fun hc2=>?_)
      ·try simp at hc2
       refine sg ?_
       refine qv A9 ?_
       refine AV ?_
       exact x1 (hr:=(Cc (by rw [Ni hi (rQ (by unfold Bg.dep;omega))])))
      ·try simp at hc2
       have hle:(b.col i).length=b.dep:=by unfold Bg.dep;omega
       refine Af ?_
       refine sg ?_
       refine qv A9 ?_
       refine BI ?_
       refine Ao (ι:=Nat) (fun k=>⟨lk [(1,.pt 1 0 0),(3,.dv (i64 ((b.worth.length:Int)))),(4,.dv (i64 (i:Nat))),(5,.dv (i64 (k:Nat)))],AA [(1,0,some ⟨[.dv (.list ((b.worth).map ints))],0,24,0,false⟩)]⟩) (fun k=>k <= (b.col i).length /\ ∀ q,q < k -> -50 <= Az (b.col i) q /\ Az (b.col i) q <= 50) (fun k=>(b.col i).length - k) 0 (by simp) (tl [(1,1)]) ?_
       intro k IL
       refine AL ?_
       refine sg ?_
       refine qv A8 ?_
       refine qv (AB Ch) ?_
       refine qv (AQ DJ DW) ?_
       refine qv A8 ?_
       first | refine qv (BF CJ Av) ?_ | refine qv (Bf CJ Av) ?_
       refine qv (Bb Av Bz) ?_
       refine qv (BD Cj) ?_
       refine qv BK ?_
       refine cd (fun hc3=>?_) (fun hc3=>?_)
       ·try simp at hc3
        refine Af ?_
        refine AL ?_
        refine BI ?_
        refine sg ?_
        have hk:k < (b.col i).length:=by omega
        have hgk:=Ap hk
        refine qv (AB Ch) ?_
        refine qv (AQ DJ DW) ?_
        refine qv A8 ?_
        first | refine qv (BF CJ Av) ?_ | refine qv (Bf CJ Av) ?_
        refine qv (Bb Av Bz) ?_
        refine qv A8 ?_
        first | refine qv (BF BG Aw) ?_ | refine qv (Bf BG Aw) ?_
        refine qv (Bb Aw Bw) ?_
        refine qv Dk ?_
        refine qx A8 (fun IQ=>?_) (fun IQ=>?_)
        ·try simp at IQ
         iterate 9 refine qk ?_
         refine qv Ae ?_
         refine G5 (hb:=by first | rfl | simp | simp_all) (ht:=?_)
         refine sg ?_
         refine qv A9 ?_
         refine AV ?_
         exact x1 (hr:=(Cc (by rw [Ni hi (bW hk (by omega))])))
        ·try simp at IQ
         refine qv (AB Ch) ?_
         refine qv (AQ DJ DW) ?_
         refine qv A8 ?_
         first | refine qv (BF CJ Av) ?_ | refine qv (Bf CJ Av) ?_
         refine qv (Bb Av Bz) ?_
         refine qv A8 ?_
         first | refine qv (BF BG Aw) ?_ | refine qv (Bf BG Aw) ?_
         refine qv (Bb Aw Bw) ?_
         refine qv BK ?_
         refine qv Ae ?_
         refine cd (fun hc4=>?_) (fun hc4=>?_)
         ·try simp at hc4
          refine sg ?_
          refine qv A9 ?_
          refine AV ?_
          exact x1 (hr:=(Cc (by rw [Ni hi (bW hk (by omega))])))
         ·try simp at hc4
          refine Af ?_
          refine rg ?_
          refine qv A8 ?_
          refine qv Aq ?_
          refine qv A9 ?_
          refine ⟨k+1,?_,(by simp only;omega),(tl [(1,1)])⟩
          refine ⟨by omega,fun q hq=>?_⟩
          rcases Nat.lt_or_ge q k with h1 | h1
          ·exact IL.2 q h1
          ·obtain rfl:q=k:=by omega
           omega
       ·try simp at hc3
        refine Ai ?_
        refine rg ?_
        refine qv A8 ?_
        refine qv Aq ?_
        refine qv A9 ?_
        refine ⟨i+1,?_,(by simp only;omega),(tl [(1,1)])⟩
        refine ⟨by omega,fun j hj=>?_⟩
        rcases Nat.lt_or_ge j i with h1 | h1
        ·exact BM.2 j h1
        ·obtain rfl:j=i:=by omega
         exact xP hle fun q hq=>IL.2 q (by omega)
     ·try simp at hc1
      refine Ai ?_
      refine sg ?_
      refine qv A9 ?_
      refine AV ?_
      exact x1 (hr:=(Cc (by rw [bf h6 hd fun j hj=>BM.2 j (by omega)])))
theorem f212 (l:List Int) (x:Int) (hl:l.length < 2000000):AR Tryz.prog 212 [ints l,i64 x] (.one (.dv (i64 (ZA x l)))):=by
 refine Bv Tryz.func212 rfl rfl (by rw [Tryz.ntmps212];simp) fun cx hP hn hg=>?_
 rw [Tryz.ntmps212] at hn
 rw [Br,Bq]
 simp only [List.nil_append,List.append_nil,List.cons_append,BH,Nat.reduceAdd]
 refine sg ?_
 refine qv A9 ?_
 refine AL ?_
 refine sg ?_
 refine qv A8 ?_
 refine qv (BD Cj) ?_
 refine qv A8 ?_
 refine BI ?_
 refine Ao (ι:=Nat) (fun i=>⟨lk [(0,.dv (ints (l))),(1,.dv (i64 (x))),(7,.dv (i64 ((l.length:Int)))),(8,.dv (i64 (i:Nat)))],AA []⟩) (fun i=>i <= l.length /\ ∀ j (hj:j < l.length),j < i -> l[j] ≠ x) (fun i=>l.length - i) 0 (by simp) (tl []) ?_
 intro i BM
 refine sg ?_
 refine qv BK ?_
 refine AL ?_
 refine cd (fun hc0=>?_) (fun hc0=>?_)
 ·try simp at hc0
  refine Af ?_
  refine AL ?_
  refine BI ?_
  refine sg ?_
  have hi:i < l.length:=by omega
  have hx:l[i]?=some l[i]:=List.getElem?_eq_getElem hi
  refine qv A8 ?_
  refine qv A9 ?_
  refine sg ?_
  iterate 3 refine qv A8 ?_
  first | refine qv (BF BG Aw) ?_ | refine qv (Bf BG Aw) ?_
  refine qv (Bb Aw Bw) ?_
  refine qv Bl ?_
  refine cd (fun hc1=>?_) (fun hc1=>?_)
  ·try simp at hc1
   refine sg ?_
   refine qv A8 ?_
   refine qv A9 ?_
   refine AV ?_
   exact x1 (hr:=(Cc (by rw [pW hi (by simp_all) fun j hj h=>BM.2 j hj h])))
  ·try simp at hc1
   refine Af ?_
   refine rg ?_
   refine qv Aq ?_
   refine qv A8 ?_
   exact ⟨i+1,⟨by omega,fun j hj h=>by
    rcases Nat.lt_or_ge j i with h1 | h1
    ·exact BM.2 j hj h1
    ·obtain rfl:j=i:=by omega
     exact fun e=>hc1 (by simp [e])⟩,(by simp only;omega),(tl [])⟩
 ·try simp at hc0
  refine Ai ?_
  refine sg ?_
  refine qv A9 ?_
  refine AV ?_
  exact x1 (hr:=(Cc (by rw [pU fun j hj=>BM.2 j hj (by omega)])))
theorem f184 (l:List Int) (x:Int) (hl:l.length < 2000000):AR Tryz.prog 184 [ints l,i64 x] (.one (.dv (.bool (l.contains x)))):=by
 refine Bv Tryz.func184 rfl rfl (by rw [Tryz.ntmps184];simp) fun cx hP hn hg=>?_
 rw [Tryz.ntmps184] at hn
 rw [Br,Bq]
 simp only [List.nil_append,List.append_nil,List.cons_append,BH,Nat.reduceAdd]
 refine sg ?_
 refine qv A9 ?_
 refine sg ?_
 iterate 2 refine qv A8 ?_
 refine CF (f212 l x hl) ?_
 refine qv FT ?_
 refine qv A9 ?_
 refine AV ?_
 exact x1 (hr:=(Ej (by exact pV)))
theorem f131 (a b:List Int) (ha:a.length < 2000000):AR Tryz.prog 131 [ints a,ints b] (.one (.dv (.bool (a == b)))):=by
 refine Bv Tryz.func131 rfl rfl (by rw [Tryz.ntmps131];simp) fun cx hP hn hg=>?_
 rw [Tryz.ntmps131] at hn
 rw [Br,Bq]
 simp only [List.nil_append,List.append_nil,List.cons_append,BH,Nat.reduceAdd]
 refine sg ?_
 refine qv A9 ?_
 refine AL ?_
 refine sg ?_
 refine qv A8 ?_
 refine qv (BD Cj) ?_
 refine qv A8 ?_
 refine qv (BD Cj) ?_
 refine qv Ay ?_
 refine cd (fun hc0=>?_) (fun hc0=>?_)
 ·try simp at hc0
  refine sg ?_
  refine qv A9 ?_
  refine AV ?_
  exact x1 (hr:=(Ej (by symm;rw [beq_eq_false_iff_ne];intro e;exact hc0 (by rw [e]))))
 ·try simp at hc0
  have hlab:a.length=b.length:=by exact_mod_cast hc0
  refine Af ?_
  refine AL ?_
  refine sg ?_
  refine qv A8 ?_
  refine qv (BD Cj) ?_
  refine qv A8 ?_
  refine BI ?_
  refine Ao (ι:=Nat) (fun i=>⟨lk [(0,.dv (ints (a))),(1,.dv (ints (b))),(12,.dv (i64 ((a.length:Int)))),(13,.dv (i64 (i:Nat)))],AA []⟩) (fun i=>i <= a.length /\ ∀ j,j < i -> Az a j=Az b j) (fun i=>a.length - i) 0 (by simp) (tl []) ?_
  intro i BM
  refine sg ?_
  refine qv BK ?_
  refine AL ?_
  refine cd (fun hc1=>?_) (fun hc1=>?_)
  ·try simp at hc1
   refine Af ?_
   refine AL ?_
   refine BI ?_
   refine sg ?_
   refine qv A8 ?_
   refine qv A9 ?_
   refine AL ?_
   have hi:i < a.length:=by omega
   have hga:=Ap hi
   have hgb:=Ap (a:=b) (i:=i) (by omega)
   refine rd mixed ?_
   iterate 2 refine zv A8 ?_
   first | refine zv (BF BG Aw) ?_ | refine zv (Bf BG Aw) ?_
   refine zv (Bb Aw Bw) ?_
   iterate 2 refine zv A8 ?_
   first | refine zv (BF BG Aw) ?_ | refine zv (Bf BG Aw) ?_
   refine zv (Bb Aw Bw) ?_
   refine zv Ay ?_
   refine ⟨by rfl,?_⟩
   refine cd (fun hc2=>?_) (fun hc2=>?_)
   ·try simp at hc2
    refine sg ?_
    refine qv A9 ?_
    refine AV ?_
    exact x1 (hr:=(Ej (by symm;rw [beq_eq_false_iff_ne];intro e;exact hc2 (by rw [e]))))
   ·try simp at hc2
    refine Af ?_
    refine rg ?_
    refine qv Aq ?_
    refine qv A8 ?_
    refine ⟨i+1,?_,(by simp only;omega),(tl [])⟩
    refine ⟨by omega,fun j hj=>?_⟩
    rcases Nat.lt_or_ge j i with h1 | h1
    ·exact BM.2 j h1
    ·obtain rfl:j=i:=by omega
     simpa using hc2
  ·try simp at hc1
   refine Ai ?_
   refine sg ?_
   refine qv A9 ?_
   refine AV ?_
   exact x1 (hr:=(Ej (by symm;rw [beq_iff_eq];exact lC hlab fun j hj=>BM.2 j (by omega))))
end Go.Ab.Tryz
namespace Go.Ab.Tryz
open Go Go.Ab Go.Proofs Go.Ab.Ck
open Go.Ab.Heap (Az Ap BX)
open Go.Ab.Heap (sm)
def K5 (l:List Int) (c:Nat):List Int:=l.set c (Az l c+1)
def Ep (b:Bg) (l:List Int) (c:Nat):Bool:=decide (Az l c+1 <= b.dep) && Ho (K5 l c)
def jN (b:Bg) (l:List Int):List Int:=ns ((List.range l.length).filter (Ep b l))
def Ms (b:Bg) (l:List Int):List Int:=if K3 b l=0 then jN b l else []
theorem Jm {l:List Int} {c:Nat}:(K5 l c).length=l.length:=by simp [K5]
theorem qz {l:List Int} {c:Nat} (h:c < l.length):(K5 l c)[c]?=some (Az l c+1):=by simp [K5,h]
theorem RQ {l:List Int} {c i:Nat} (h:c < l.length):Az (K5 l c) i=if i=c then Az l c+1 else Az l i:=by
 unfold K5
 rw [BX h]
theorem xC {b:Bg} {l:List Int} (ok:Oa b l) {c:Nat} (h:c < l.length):∀ i,i < (K5 l c).length -> 0 <= Az (K5 l c) i /\ Az (K5 l c) i <= 5:=fun i hi=>by
 rw [Jm] at hi
 rw [RQ h]
 have h1:=ok.bd c h
 have h2:=ok.bd i hi
 have h3:=ok.bg.d4
 split<;>omega
def Na (b:Bg) (i:Nat) (k:Nat):Int:=sm (Az (b.col i)) k
def L6 (b:Bg) (l:List Int) (n:Nat):Int:=sm (fun i=>Na b i (Az l i).toNat) n
def worth (b:Bg) (l:List Int):Int:=L6 b l l.length
theorem Pp {b:Bg} (ok:Ob b) {i j:Nat} (hi:i < b.worth.length) (hj:j < b.dep):-50 <= Az (b.col i) j /\ Az (b.col i) j <= 50 :=
 ok.bd i hi _ (List.mem_of_getElem? (Ap (by rw [ok.len i hi];exact hj)))
theorem VO {b:Bg} (ok:Ob b) {i:Nat} (hi:i < b.worth.length):∀ k,k <= b.dep -> -(50 * k:Int) <= Na b i k /\ Na b i k <= 50 * k
 | 0,_=>by simp [Na,sm]
 | k+1,h=>by
  have h1:=VO ok hi k (by omega)
  have h2:=Pp ok hi (show k < b.dep by omega)
  unfold Na at h1 ⊢
  simp only [sm]
  omega
theorem UN {b:Bg} {l:List Int} (ok:Oa b l):∀ n,n <= l.length -> -(200 * n:Int) <= L6 b l n /\ L6 b l n <= 200 * n
 | 0,_=>by simp [L6,sm]
 | n+1,h=>by
  have h1:=UN ok n (by omega)
  have h2:=ok.bd n (by omega)
  have h3:=ok.bg.d4
  have h4:=VO ok.bg (i:=n) (by rw [<- ok.len];omega) (Az l n).toNat (by omega)
  unfold L6 at h1 ⊢
  simp only [sm]
  omega
theorem take_at {l:List Int} {k j:Nat} (h:j < k) (hl:k <= l.length):(l.take k)[j]?=some (Az l j):=by
 rw [List.getElem?_take_of_lt h];exact Ap (by omega)
theorem f211 (b:Bg) (l:List Int) (ok:Oa b l) (c:Nat) (hc:c < l.length):AR Tryz.prog 211 [RX b,ints l,i64 (c:Nat)] (.one (.dv (.bool (Ep b l c)))):=by
 have hn0:=ok.bg.n0
 have X8:=ok.bg.n6
 have hd4:=ok.bg.d4
 have hle:=ok.len
 have hgc:=Ap hc
 have hbc:=ok.bd c hc
 have hgs:=qz hc
 have hdl:=Jm (l:=l) (c:=c)
 refine Bv Tryz.func211 rfl rfl (by rw [Tryz.ntmps211];simp) fun cx hP hn hg=>?_
 rw [Tryz.ntmps211] at hn
 rw [Br,Bq]
 simp only [List.nil_append,List.append_nil,List.cons_append,BH,Nat.reduceAdd]
 refine sg ?_
 refine qp Bu ?_
 refine qv A9 ?_
 refine sg ?_
 refine qv A8 ?_
 refine CF (f97 l (by omega)) ?_
 refine qv A9 ?_
 refine sg ?_
 iterate 2 refine qv A8 ?_
 refine qv (CR BG Aw) ?_
 refine qv (Ig Aw Bw (hq:=hgc)) ?_
 refine qv Aq ?_
 refine qv (CR BG Aw) ?_
 refine qs (KI Aw) ?_
 refine AL ?_
 rw [show l.set c (Az l c+1)=K5 l c from rfl]
 refine rd mixed ?_
 iterate 2 refine zv A8 ?_
 refine zv (CR BG Aw) ?_
 refine zv (Ig Aw Bw (hq:=hgs)) ?_
 refine zv (AY Dw EC) ?_
 refine Kz (R:=[]) (f109 b hn0) ?_
 refine zv LD ?_
 refine zx A8 (fun OP=>?_) (fun OP=>?_)
 ·try simp at OP
  refine zv A8 ?_
  refine Kz (R:=[9]) (f70 (K5 l c) (by omega) (xC ok hc)) ?_ (ha:=(CV (Bc (L:=K5 l c) (by simp only [AA,reduceIte,Nat.reduceEqDiff]<;>rfl) trivial (by first | rfl | omega | (simp;done) | (simp;omega)) rfl rfl (fun _=>trivial)) FI))
  refine zv Ae ?_
  refine zv A9 ?_
  refine ⟨by rfl,?_⟩
  refine AV ?_
  exact x1 (hr:=(Ej (by unfold Ep;first | (rw [decide_eq_true (show Az l c+1 <= (b.dep:Int) by omega),Bool.true_and]) | (rw [decide_eq_false (show ¬ Az l c+1 <= (b.dep:Int) by omega),Bool.false_and]))))
 ·try simp at OP
  iterate 2 refine zk ?_
  refine zv Ae ?_
  refine zv A9 ?_
  refine ⟨by rfl,?_⟩
  refine AV ?_
  exact x1 (hr:=(Ej (by unfold Ep;first | (rw [decide_eq_true (show Az l c+1 <= (b.dep:Int) by omega),Bool.true_and]) | (rw [decide_eq_false (show ¬ Az l c+1 <= (b.dep:Int) by omega),Bool.false_and]))))
theorem f183 (b:Bg) (l:List Int):AR Tryz.prog 183 [RX b,ints l] (.many [rI (Ms b l),.dv (i64 (K3 b l))]):=by
 refine Bv Tryz.func183 rfl rfl (by rw [Tryz.ntmps183];simp) fun cx hP hn hg=>?_
 rw [Tryz.ntmps183] at hn
 rw [Br,Bq]
 simp only [List.nil_append,List.append_nil,List.cons_append,BH,Nat.reduceAdd]
 refine sg ?_
 refine qp Bu ?_
 iterate 2 refine qv A9 ?_
 refine AL ?_
 refine sg ?_
 refine qv (AY Dw EC) ?_
 refine qv A8 ?_
 refine CF (f27 b l) ?_
 refine qv A9 ?_
 refine sg ?_
 refine qv A8 ?_
 refine qv Ay ?_
 refine cd (fun hc0=>?_) (fun hc0=>?_)
 ·skip
  have hv0:¬ K3 b l=0:=by simpa using hc0
  refine sg ?_
  refine qv A8 ?_
  iterate 2 refine qv A9 ?_
  refine AV ?_
  exact x2 (hr:=(rN_ (by unfold Ms;rw [if_neg hv0]))) (hr':=(Cc))
 ·skip
  have hv0:K3 b l=0:=by simpa using hc0
  obtain ⟨ok,hrt⟩:=tX hv0
  have X8:=ok.bg.n6
  have hle:=ok.len
  refine Af ?_
  refine sg ?_
  refine qv A9 ?_
  refine AL ?_
  refine sg ?_
  refine qv A8 ?_
  refine qv (BD Cj) ?_
  refine qv A8 ?_
  refine BI ?_
  refine Ao (ι:=Nat) (fun i=>⟨lk [(1,.dv (ints (l))),(2,.pt 2 0 0),(7,.sl 7 0 0 ((ns ((List.range i).filter (Ep b l))).length)),(16,.dv (i64 ((l.length:Int)))),(17,.dv (i64 (i:Nat)))],AA [(2,0,some ⟨[.dv (.list ((b.worth).map ints))],0,24,0,false⟩),(7,0,some (SK (ns ((List.range i).filter (Ep b l)))))]⟩) (fun i=>i <= l.length) (fun i=>l.length - i) 0 (by simp) (tl [(2,2)] (hF:=by simp [DK,AX,lk,AA,isLive,AZ,ns]) (hM:=by simp [Cm,Ar,AX,Aa,lk,AA,isLive,AZ,BO,BN,Al,BL,BP,BS,BQ,BR,ns])) ?_
  intro i BM
  have hfl:=RG (p:=Ep b l) (k:=i)
  refine sg ?_
  refine qv BK ?_
  refine AL ?_
  refine cd (fun hc1=>?_) (fun hc1=>?_)
  ·try simp at hc1
   refine Af ?_
   refine AL ?_
   refine BI ?_
   refine sg ?_
   refine qv A8 ?_
   refine qv A9 ?_
   refine sg ?_
   have hi:i < l.length:=by omega
   refine qv (AY Dw EC) ?_
   iterate 2 refine qv A8 ?_
   refine CF (f211 b l ok i hi) ?_
   refine cd (fun hc2=>?_) (fun hc2=>?_)
   ·try simp at hc2
    have hsn:=TU (p:=Ep b l) (k:=i) hc2
    have hnl:(ns ((List.range i).filter (Ep b l))).length <= 6:=by rw [Yr];omega
    refine rg ?_
    iterate 2 refine qv A8 ?_
    refine qr (FV BG Nu Aw) ?_
    refine vG (Iu BG BG Nu Aw ZY) ?_
    refine qv A9 ?_
    refine rg ?_
    refine qv Aq ?_
    refine qv A8 ?_
    exact ⟨i+1,hi,(by simp only;omega),(tl [(2,2),(7,27)] (hF:=by simp [DK,AX,lk,AA,isLive,AZ,hsn]) (hM:=by simp [Cm,Ar,AX,Aa,lk,AA,isLive,AZ,BO,BN,Al,BL,BP,BS,BQ,BR,hsn]))⟩
   ·try simp at hc2
    have hsn:=Qk (p:=Ep b l) (k:=i) (by simpa using hc2)
    refine Af ?_
    refine rg ?_
    refine qv Aq ?_
    refine qv A8 ?_
    exact ⟨i+1,hi,(by simp only;omega),(tl [(2,2),(7,7)] (hF:=by simp [DK,AX,lk,AA,isLive,AZ,hsn]) (hM:=by simp [Cm,Ar,AX,Aa,lk,AA,isLive,AZ,BO,BN,Al,BL,BP,BS,BQ,BR,hsn]))⟩
  ·try simp at hc1
   refine Ai ?_
   refine sg ?_
   refine qv A8 ?_
   iterate 2 refine qv A9 ?_
   refine AV ?_
   obtain rfl:i=l.length:=by omega
   exact x2 (hr:=(sj (by unfold Ms;rw [if_pos hv0];first | done | rfl))) (hr':=(Cc (by rw [hv0])))
theorem f125 (b:Bg) (l:List Int) (ok:Oa b l):AR Tryz.prog 125 [RX b,ints l] (.one (.dv (i64 (worth b l)))):=by
 have hn0:=ok.bg.n0
 have X8:=ok.bg.n6
 have hd4:=ok.bg.d4
 have hle:=ok.len
 refine Bv Tryz.func125 rfl rfl (by rw [Tryz.ntmps125];simp) fun cx hP hn hg=>?_
 rw [Tryz.ntmps125] at hn
 rw [Br,Bq]
 simp only [List.nil_append,List.append_nil,List.cons_append,BH,Nat.reduceAdd]
 refine sg ?_
 refine qp Bu ?_
 refine qv A9 ?_
 refine sg ?_
 refine qv A9 ?_
 refine AL ?_
 refine sg ?_
 refine qv A8 ?_
 refine qv (BD Cj) ?_
 refine qv A8 ?_
 refine BI ?_
 refine Ao (ι:=Nat) (fun i=>⟨lk [(2,.pt 2 0 0),(5,.dv (i64 (L6 b l i))),(10,.dv (ints (l))),(11,.dv (i64 ((l.length:Int)))),(12,.dv (i64 (i:Nat)))],AA [(2,0,some ⟨[.dv (.list ((b.worth).map ints))],0,24,0,false⟩)]⟩) (fun i=>i <= l.length) (fun i=>l.length - i) 0 (by simp) (tl [(2,2)] (hF:=by simp [DK,AX,lk,AA,isLive,AZ,L6,sm]) (hM:=by simp [Cm,Ar,AX,Aa,lk,AA,isLive,AZ,BO,BN,Al,BL,BP,BS,BQ,BR,L6,sm])) ?_
 intro i BM
 refine sg ?_
 refine qv BK ?_
 refine AL ?_
 refine cd (fun hc0=>?_) (fun hc0=>?_)
 ·try simp at hc0
  refine Af ?_
  refine AL ?_
  refine BI ?_
  refine sg ?_
  have hi:i < l.length:=by omega
  have hgi:=Ap hi
  have hgc:=Eu (b:=b) (i:=i) (by omega)
  have hlc:=ok.bg.len i (by omega)
  have hbi:=ok.bd i hi
  obtain ⟨k,hk⟩:∃ k:Nat,Az l i=k:=⟨(Az l i).toNat,by omega⟩
  rw [hk] at hgi hbi
  refine qv A8 ?_
  first | refine qv (BF BG Aw) ?_ | refine qv (Bf BG Aw) ?_
  refine qv (Bb Aw Bw) ?_
  iterate 2 refine qv A9 ?_
  refine sg ?_
  refine qv (AB Ch) ?_
  refine qv (AQ DJ DW) ?_
  refine qv A8 ?_
  first | refine qv (BF CJ Av) ?_ | refine qv (Bf CJ Av) ?_
  refine qv (Bb Av Bz) ?_
  refine qv A8 ?_
  refine qv (aM (L':=(b.col i).take k) BG Aw (hL:=by simp)) ?_
  refine qv (BD Cj) ?_
  refine qv A8 ?_
  refine BI ?_
  refine Ao (ι:=Nat) (fun j=>⟨lk [(2,.pt 2 0 0),(5,.dv (i64 (L6 b l i+Na b i j))),(10,.dv (ints (l))),(11,.dv (i64 ((l.length:Int)))),(12,.dv (i64 (i:Nat))),(23,.dv (ints (((b.col i).take k)))),(24,.dv (i64 (((((b.col i).take k)).length:Int)))),(25,.dv (i64 (j:Nat)))],AA [(2,0,some ⟨[.dv (.list ((b.worth).map ints))],0,24,0,false⟩)]⟩) (fun j=>j <= k) (fun j=>k - j) 0 (by simp) (tl [(2,2)] (hF:=by simp [DK,AX,lk,AA,isLive,AZ,Na,sm]) (hM:=by simp [Cm,Ar,AX,Aa,lk,AA,isLive,AZ,BO,BN,Al,BL,BP,BS,BQ,BR,Na,sm])) ?_
  intro j IL
  refine sg ?_
  refine qv BK ?_
  refine AL ?_
  refine cd (fun hc1=>?_) (fun hc1=>?_)
  ·try simp at hc1
   refine Af ?_
   refine AL ?_
   refine BI ?_
   refine sg ?_
   have hj:j < k:=by simp at *;omega
   have hgj:=take_at (l:=b.col i) hj (by omega)
   have hwb:=UN ok i (by omega)
   have hcb:=VO ok.bg (i:=i) (by omega) j (by omega)
   have hab:=Pp ok.bg (i:=i) (j:=j) (by omega) (by omega)
   have hcs:L6 b l i+Na b i (j+1)=L6 b l i+Na b i j+Az (b.col i) j:=by simp only [Na,sm];omega
   first | refine qv (BF BG Aw) ?_ | refine qv (Bf BG Aw) ?_
   refine qv (Bb Aw Bw) ?_
   refine qv A9 ?_
   refine rg ?_
   iterate 2 refine qv A8 ?_
   refine qv Aq ?_
   refine qv A9 ?_
   refine rg ?_
   refine qv Aq ?_
   refine qv A8 ?_
   exact ⟨j+1,hj,(by simp only;omega),(tl [(2,2)] (hF:=by simp [DK,AX,lk,AA,isLive,AZ,hcs]) (hM:=by simp [Cm,Ar,AX,Aa,lk,AA,isLive,AZ,BO,BN,Al,BL,BP,BS,BQ,BR,hcs]))⟩
  ·try simp at hc1
   obtain rfl:j=k:=by simp at *;omega
   have hws:L6 b l (i+1)=L6 b l i+Na b i j:=by simp only [L6,sm];rw [hk];rfl
   refine Ai ?_
   refine rg ?_
   refine qv Aq ?_
   refine qv A8 ?_
   exact ⟨i+1,hi,(by simp only;omega),(tl [(2,2)] (hF:=by simp [DK,AX,lk,AA,isLive,AZ,hws]) (hM:=by simp [Cm,Ar,AX,Aa,lk,AA,isLive,AZ,BO,BN,Al,BL,BP,BS,BQ,BR,hws]))⟩
 ·try simp at hc0
  refine Ai ?_
  refine sg ?_
  refine qv A8 ?_
  refine qv A9 ?_
  refine AV ?_
  obtain rfl:i=l.length:=by omega
  exact x1 (hr:=(Cc))
theorem f82 (b:Bg) (l:List Int):AR Tryz.prog 82 [RX b,ints l] (.many [.dv (i64 (if K3 b l=0 then worth b l else 0)),.dv (i64 (K3 b l))]):=by
 refine Bv Tryz.func82 rfl rfl (by rw [Tryz.ntmps82];simp) fun cx hP hn hg=>?_
 rw [Tryz.ntmps82] at hn
 rw [Br,Bq]
 simp only [List.nil_append,List.append_nil,List.cons_append,BH,Nat.reduceAdd]
 refine sg ?_
 refine qp Bu ?_
 iterate 2 refine qv A9 ?_
 refine AL ?_
 refine sg ?_
 refine qv (AY Dw EC) ?_
 refine qv A8 ?_
 refine CF (f27 b l) ?_
 refine qv A9 ?_
 refine sg ?_
 refine qv A8 ?_
 refine qv Ay ?_
 refine cd (fun hc0=>?_) (fun hc0=>?_)
 ·skip
  have hv0:¬ K3 b l=0:=by simpa using hc0
  refine sg ?_
  refine qv A8 ?_
  iterate 2 refine qv A9 ?_
  refine AV ?_
  exact x2 (hr:=(Cc (by rw [if_neg hv0]))) (hr':=(Cc))
 ·skip
  have hv0:K3 b l=0:=by simpa using hc0
  obtain ⟨ok,hrt⟩:=tX hv0
  refine Af ?_
  refine sg ?_
  refine qv (AY Dw EC) ?_
  refine qv A8 ?_
  refine CF (f125 b l ok) ?_
  iterate 2 refine qv A9 ?_
  refine AV ?_
  exact x2 (hr:=(Cc (by rw [if_pos hv0]))) (hr':=(Cc (by rw [hv0])))
end Go.Ab.Tryz
