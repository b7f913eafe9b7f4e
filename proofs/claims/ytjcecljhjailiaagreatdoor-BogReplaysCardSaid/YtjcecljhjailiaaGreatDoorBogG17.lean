/- BogH1, BogH2. -/
import Derived.Test.YtjcecljhjailiaaGreatDoorBogG16
import Derived.Test.YtjcecljhjailiaaGreatDoorBogG07
import Derived.Test.YtjcecljhjailiaaGreatDoorBogG11
set_option linter.all false
namespace Go.Ab.Tryz.H
open Go Go.Ab Go.Ab.Tryz Go.Proofs Go.Ab.Heap
abbrev ql (f:FuncId) (p:Int -> Bool) (l:List Int):Prop:=∀ x ∈ l,AR Tryz.prog f ([] ++ [i64 x] ++ []) (.one (.dv (.bool (p x))))
def NT (p:Int -> Bool) (l:List Int):Int:=if l.any p then (l.findIdx p:Int) else -1
theorem u6 {p:Int -> Bool} {l:List Int} {i:Nat} (hi:i < l.length) (hp:p l[i]=true) (hj:∀ j (h:j < l.length),j < i -> p l[j]=false):NT p l=i:=by
 unfold NT
 rw [if_pos (List.any_eq_true.2 ⟨_,List.getElem_mem hi,hp⟩)]
 congr 1
 exact (List.findIdx_eq hi).2 ⟨hp,fun j h=>by simpa using hj j (by omega) h⟩
theorem nk {p:Int -> Bool} {l:List Int} (hj:∀ j (h:j < l.length),p l[j]=false):NT p l=-1:=by
 unfold NT
 rw [if_neg]
 intro h
 obtain ⟨x,hx,hpx⟩:=List.any_eq_true.1 h
 obtain ⟨j,h2,rfl⟩:=List.getElem_of_mem hx
 rw [hj j h2] at hpx;cases hpx
theorem u7 {p:Int -> Bool} {l:List Int}:decide (0 <= NT p l)=l.any p:=by
 unfold NT
 split
 ·rename_i h;rw [h];simp
 ·rename_i h;simp at h ⊢;exact h
theorem f133 (n lo hi:Int):AR Tryz.prog 133 [i64 n,i64 lo,i64 hi] (.one (.dv (.bool (KI n lo hi)))):=by
 refine Bu Tryz.func133 rfl rfl (by rw [Tryz.ntmps133];simp) fun cx hP hn hg=>?_
 rw [Tryz.ntmps133] at hn
 rw [Bq,Bp]
 simp only [List.nil_append,List.append_nil,List.cons_append,BF,Nat.reduceAdd]
 refine sg ?_
 refine qv A9 ?_
 refine sg ?_
 iterate 2 refine qv A8 ?_
 refine qv Df ?_
 refine qx A8 (fun Gh=>?_) (fun Gh=>?_)
 ·try simp at Gh
  iterate 2 refine qv A8 ?_
  refine qv IU ?_
  refine qv Ai ?_
  refine qv A9 ?_
  refine AP ?_
  exact x1 (hr:=(DX (by first | (simp_all [KI];done) | (simp_all [KI];omega))))
 ·try simp at Gh
  iterate 3 refine qk ?_
  refine qv Ai ?_
  refine qv A9 ?_
  refine AP ?_
  exact x1 (hr:=(DX (by first | (simp_all [KI];done) | (simp_all [KI];omega))))
theorem f121 (n lo hi:Int):AR Tryz.prog 121 [i64 n,i64 lo,i64 hi] (.one (.dv (.bool (KI n lo hi)))):=by
 refine Bu Tryz.func121 rfl rfl (by rw [Tryz.ntmps121];simp) fun cx hP hn hg=>?_
 rw [Tryz.ntmps121] at hn
 rw [Bq,Bp]
 simp only [List.nil_append,List.append_nil,List.cons_append,BF,Nat.reduceAdd]
 refine sg ?_
 refine qv A9 ?_
 refine sg ?_
 iterate 2 refine qv A8 ?_
 refine qv Df ?_
 refine qx A8 (fun Gh=>?_) (fun Gh=>?_)
 ·try simp at Gh
  iterate 2 refine qv A8 ?_
  refine qv IU ?_
  refine qv Ai ?_
  refine qv A9 ?_
  refine AP ?_
  exact x1 (hr:=(DX (by first | (simp_all [KI];done) | (simp_all [KI];omega))))
 ·try simp at Gh
  iterate 3 refine qk ?_
  refine qv Ai ?_
  refine qv A9 ?_
  refine AP ?_
  exact x1 (hr:=(DX (by first | (simp_all [KI];done) | (simp_all [KI];omega))))
theorem f165 (x:Int):AR Tryz.prog 165 [i64 x] (.one (.dv (.bool (!KI x 0 30)))):=by
 refine Bu Tryz.func165 rfl rfl (by rw [Tryz.ntmps165];simp) fun cx hP hn hg=>?_
 rw [Tryz.ntmps165] at hn
 rw [Bq,Bp]
 simp only [List.nil_append,List.append_nil,List.cons_append,BF,Nat.reduceAdd]
 refine sg ?_
 refine qv A9 ?_
 refine sg ?_
 refine qv A8 ?_
 refine Bo (f133 x 0 30) ?_
 refine qv Bn ?_
 refine qv A9 ?_
 refine AP ?_
 exact x1 (hr:=(DX))
theorem f155 (l:List Int) (f:FuncId) (p:Int -> Bool) (hp:ql f p l) (hl:l.length < 2000000):AR Tryz.prog 155 [ints l,.fn f [] []] (.one (.dv (i64 (NT p l)))):=by
 refine Bu Tryz.func155 rfl rfl (by rw [Tryz.ntmps155];simp) fun cx hP hn hg=>?_
 rw [Tryz.ntmps155] at hn
 rw [Bq,Bp]
 simp only [List.nil_append,List.append_nil,List.cons_append,BF,Nat.reduceAdd]
 refine sg ?_
 refine qv A9 ?_
 refine AJ ?_
 refine sg ?_
 refine qv A8 ?_
 refine qv (BH CZ) ?_
 refine qv A8 ?_
 refine BD ?_
 refine Ag (ι:=Nat) (fun i=>⟨lk [(0,.dv (ints (l))),(1,.dv (.fn f [] [])),(7,.dv (i64 ((l.length:Int)))),(8,.dv (i64 (i:Nat)))],AA []⟩) (fun i=>i <= l.length /\ ∀ j (h:j < l.length),j < i -> p l[j]=false) (fun i=>l.length - i) 0 (by simp) (tl []) ?_
 intro i Aj
 refine sg ?_
 refine qv BQ ?_
 refine AJ ?_
 refine cd (fun hc0=>?_) (fun hc0=>?_)
 ·try simp at hc0
  refine AY ?_
  refine AJ ?_
  refine BD ?_
  refine sg ?_
  refine qv A8 ?_
  refine qv A9 ?_
  refine sg ?_
  iterate 3 refine qv A8 ?_
  have hin:i < l.length:=by omega
  first | refine qv (BA Ap Ak) ?_ | refine qv (Bd Ap Ak) ?_
  refine qv (Bb Ak Br) ?_
  refine A23 (hp l[i] (List.getElem_mem hin)) ?_
  refine cd (fun hc1=>?_) (fun hc1=>?_)
  ·try simp at hc1
   refine sg ?_
   refine qv A8 ?_
   refine qv A9 ?_
   refine AP ?_
   exact x1 (hr:=(CW (by rw [u6 hin (by simpa using hc1) Aj.2])))
  ·try simp at hc1
   refine AY ?_
   refine rg ?_
   refine qv Am ?_
   refine qv A8 ?_
   refine ⟨i+1,?_,(by simp only;omega),(tl [])⟩
   refine ⟨hin,fun j h hj=>?_⟩
   rcases Nat.lt_or_ge j i with h1 | h1
   ·exact Aj.2 j h h1
   ·obtain rfl:j=i:=by omega
    simpa using hc1
 ·try simp at hc0
  refine Ad ?_
  refine sg ?_
  refine qv A9 ?_
  refine AP ?_
  exact x1 (hr:=(CW (by rw [nk fun j h=>Aj.2 j h (by omega)])))
theorem f106 (l:List Int) (f:FuncId) (p:Int -> Bool) (hp:ql f p l) (hl:l.length < 2000000):AR Tryz.prog 106 [ints l,.fn f [] []] (.one (.dv (.bool (l.any p)))):=by
 refine Bu Tryz.func106 rfl rfl (by rw [Tryz.ntmps106];simp) fun cx hP hn hg=>?_
 rw [Tryz.ntmps106] at hn
 rw [Bq,Bp]
 simp only [List.nil_append,List.append_nil,List.cons_append,BF,Nat.reduceAdd]
 refine sg ?_
 refine qv A9 ?_
 refine sg ?_
 iterate 2 refine qv A8 ?_
 refine Bo (f155 l f p hp hl) ?_
 refine qv Df ?_
 refine qv A9 ?_
 refine AP ?_
 exact x1 (hr:=(DX u7))
theorem f167 (l:List Bool) (hl:l.length < 2000000):AR Tryz.prog 167 [.list (l.map DV.bool),.bool false] (.one (.dv (i64 (if l.contains false then (l.findIdx (fun b=>b == false):Int) else -1)))):=by
 have hpos:∀ i,(h:i < l.length) -> l[i]=false -> (∀ j (h:j < l.length),j < i -> l[j]=true) -> (if l.contains false then (l.findIdx (fun b=>b == false):Int) else -1)=i:=by
  intro i hi hp hj
  rw [if_pos (List.contains_iff_mem.2 (hp ▸ List.getElem_mem hi))]
  congr 1
  exact (List.findIdx_eq hi).2 ⟨by simp [hp],fun j h=>by simp [hj j (by omega) h]⟩
 have hneg:(∀ j (h:j < l.length),l[j]=true) -> (if l.contains false then (l.findIdx (fun b=>b == false):Int) else -1)=-1:=by
  intro hj
  rw [if_neg]
  intro h
  obtain ⟨j,h2,h3⟩:=List.getElem_of_mem (List.contains_iff_mem.1 h)
  rw [hj j h2] at h3;cases h3
 refine Bu Tryz.func167 rfl rfl (by rw [Tryz.ntmps167];simp) fun cx hP hn hg=>?_
 rw [Tryz.ntmps167] at hn
 rw [Bq,Bp]
 simp only [List.nil_append,List.append_nil,List.cons_append,BF,Nat.reduceAdd]
 refine sg ?_
 refine qv A9 ?_
 refine AJ ?_
 refine sg ?_
 refine qv A8 ?_
 refine qv (BH A2J) ?_
 refine qv A8 ?_
 refine BD ?_
 refine Ag (ι:=Nat) (fun i=>⟨lk [(0,.dv (.list ((l).map DV.bool))),(1,.dv (.bool (false))),(7,.dv (i64 ((l.length:Int)))),(8,.dv (i64 (i:Nat)))],AA []⟩) (fun i=>i <= l.length /\ ∀ j (h:j < l.length),j < i -> l[j]=true) (fun i=>l.length - i) 0 (by simp) (tl []) ?_
 intro i Aj
 refine sg ?_
 refine qv BQ ?_
 refine AJ ?_
 refine cd (fun hc0=>?_) (fun hc0=>?_)
 ·try simp at hc0
  refine AY ?_
  refine AJ ?_
  refine BD ?_
  refine sg ?_
  refine qv A8 ?_
  refine qv A9 ?_
  refine sg ?_
  iterate 3 refine qv A8 ?_
  have hin:i < l.length:=by omega
  first | refine qv (BA FP H8) ?_ | refine qv (Bd FP H8) ?_
  refine qv (Bb H8 YG) ?_
  refine qv (nQ ib4) ?_
  refine cd (fun hc1=>?_) (fun hc1=>?_)
  ·try simp at hc1
   refine sg ?_
   refine qv A8 ?_
   refine qv A9 ?_
   refine AP ?_
   exact x1 (hr:=(CW (by rw [hpos i hin (by simpa using hc1) Aj.2])))
  ·try simp at hc1
   refine AY ?_
   refine rg ?_
   refine qv Am ?_
   refine qv A8 ?_
   refine ⟨i+1,?_,(by simp only;omega),(tl [])⟩
   refine ⟨hin,fun j h hj=>?_⟩
   rcases Nat.lt_or_ge j i with h1 | h1
   ·exact Aj.2 j h h1
   ·obtain rfl:j=i:=by omega
    simpa using hc1
 ·try simp at hc0
  refine Ad ?_
  refine sg ?_
  refine qv A9 ?_
  refine AP ?_
  exact x1 (hr:=(CW (by rw [hneg fun j h=>Aj.2 j h (by omega)])))
theorem f134 (l:List Bool) (hl:l.length < 2000000):AR Tryz.prog 134 [.list (l.map DV.bool),.bool false] (.one (.dv (.bool (l.contains false)))):=by
 have hd:decide (0 <= (if l.contains false then (l.findIdx (fun b=>b == false):Int) else -1))=l.contains false:=by
  split
  ·rename_i h;rw [h];simp
  ·rename_i h;simp at h ⊢;exact h
 refine Bu Tryz.func134 rfl rfl (by rw [Tryz.ntmps134];simp) fun cx hP hn hg=>?_
 rw [Tryz.ntmps134] at hn
 rw [Bq,Bp]
 simp only [List.nil_append,List.append_nil,List.cons_append,BF,Nat.reduceAdd]
 refine sg ?_
 refine qv A9 ?_
 refine sg ?_
 iterate 2 refine qv A8 ?_
 refine Bo (f167 l hl) ?_
 refine qv Df ?_
 refine qv A9 ?_
 refine AP ?_
 exact x1 (hr:=(DX hd))
theorem f214 (l:List Int) (hl:l.length < 2000000):AR Tryz.prog 214 [ints l] (.one (rI l)):=by
 refine Bu Tryz.func214 rfl rfl (by rw [Tryz.ntmps214];simp) fun cx hP hn hg=>?_
 rw [Tryz.ntmps214] at hn
 rw [Bq,Bp]
 simp only [List.nil_append,List.append_nil,List.cons_append,BF,Nat.reduceAdd]
 refine sg ?_
 refine qv A9 ?_
 refine sg ?_
 refine qv A8 ?_
 refine qv (BH CZ) ?_
 refine qr (TA Ap Jq Ak U7) ?_
 refine qv A9 ?_
 refine sg ?_
 iterate 2 refine qv A8 ?_
 first | refine qcp Ap Ap Ak ?_
 refine sg ?_
 refine qv A8 ?_
 refine qv A9 ?_
 refine AP ?_
 exact x1 (hr:=(eu))
theorem f216 (l:List Int) (hl:l.length < 1000) (hb:∀ i,i < l.length -> -100000000 <= Az l i /\ Az l i <= 100000000):AR Tryz.prog 216 [ints l] (.one (.dv (i64 (sm (Az l) l.length)))):=by
 refine Bu Tryz.func216 rfl rfl (by rw [Tryz.ntmps216];simp) fun cx hP hn hg=>?_
 rw [Tryz.ntmps216] at hn
 rw [Bq,Bp]
 simp only [List.nil_append,List.append_nil,List.cons_append,BF,Nat.reduceAdd]
 refine sg ?_
 refine qv A9 ?_
 refine sg ?_
 refine qv A9 ?_
 refine AJ ?_
 refine sg ?_
 refine qv A8 ?_
 refine qv (BH CZ) ?_
 refine qv A8 ?_
 refine BD ?_
 refine Ag (ι:=Nat) (fun i=>⟨lk [(3,.dv (i64 (sm (Az l) i))),(6,.dv (ints (l))),(7,.dv (i64 ((l.length:Int)))),(8,.dv (i64 (i:Nat)))],AA []⟩) (fun i=>i <= l.length /\ -(i * 100000000:Int) <= sm (Az l) i /\ sm (Az l) i <= i * 100000000) (fun i=>l.length - i) 0 (by simp [sm]) (tl [] (hF:=by simp [Ck,Aa,lk,AA,isLive,Ac,sm]) (hM:=by simp [CV,Al,Aa,Ae,lk,AA,isLive,Ac,BK,BJ,Af,BI,BL,BO,BM,BN,sm])) ?_
 intro i Aj
 refine sg ?_
 refine qv BQ ?_
 refine AJ ?_
 refine cd (fun hc0=>?_) (fun hc0=>?_)
 ·try simp at hc0
  refine AY ?_
  refine AJ ?_
  refine BD ?_
  refine sg ?_
  have hin:i < l.length:=by omega
  have hgi:=Ah hin
  have hbi:=hb i hin
  first | refine qv (BA Ap Ak) ?_ | refine qv (Bd Ap Ak) ?_
  refine qv (Bb Ak Br) ?_
  refine qv A9 ?_
  refine rg ?_
  iterate 2 refine qv A8 ?_
  refine qv Am ?_
  refine qv A9 ?_
  refine rg ?_
  refine qv Am ?_
  refine qv A8 ?_
  exact ⟨i+1,⟨hin,by simp only [sm];omega,by simp only [sm];omega⟩,(by simp only;omega),(tl [] (hF:=by simp [Ck,Aa,lk,AA,isLive,Ac,sm]) (hM:=by simp [CV,Al,Aa,Ae,lk,AA,isLive,Ac,BK,BJ,Af,BI,BL,BO,BM,BN,sm]))⟩
 ·try simp at hc0
  refine Ad ?_
  refine sg ?_
  refine qv A8 ?_
  refine qv A9 ?_
  refine AP ?_
  obtain rfl:i=l.length:=by omega
  exact x1 (hr:=CW)
theorem f60 (a b:List Int) (ha:a.length < 2000000):AR Tryz.prog 60 [ints a,ints b] (.one (.dv (.bool (a == b)))):=by
 refine Bu Tryz.func60 rfl rfl (by rw [Tryz.ntmps60];simp) fun cx hP hn hg=>?_
 rw [Tryz.ntmps60] at hn
 rw [Bq,Bp]
 simp only [List.nil_append,List.append_nil,List.cons_append,BF,Nat.reduceAdd]
 refine sg ?_
 refine qv A9 ?_
 refine AJ ?_
 refine sg ?_
 refine qv A8 ?_
 refine qv (BH CZ) ?_
 refine qv A8 ?_
 refine qv (BH CZ) ?_
 refine qv BP ?_
 refine cd (fun hc0=>?_) (fun hc0=>?_)
 ·try simp at hc0
  refine sg ?_
  refine qv A9 ?_
  refine AP ?_
  exact x1 (hr:=(DX (by rw [j4 (by intro e;exact hc0 (by exact_mod_cast e))])))
 ·try simp at hc0
  refine AY ?_
  refine AJ ?_
  refine sg ?_
  refine qv A9 ?_
  refine BD ?_
  refine Ag (ι:=Nat) (fun i=>⟨lk [(0,.dv (ints (a))),(1,.dv (ints (b))),(5,.dv (i64 (i:Nat)))],AA []⟩) (fun i=>i <= a.length /\ ∀ j,j < i -> a[j]?=b[j]?) (fun i=>a.length - i) 0 (by simp) (tl []) ?_
  intro i Aj
  refine AJ ?_
  refine sg ?_
  iterate 2 refine qv A8 ?_
  refine qv (BH CZ) ?_
  refine qv BQ ?_
  refine cd (fun hc1=>?_) (fun hc1=>?_)
  ·try simp at hc1
   refine AY ?_
   refine AJ ?_
   refine BD ?_
   refine AJ ?_
   refine rd mixed ?_
   have hin:i < a.length:=by omega
   have hlab:a.length=b.length:=by exact_mod_cast hc0
   have hga:=Ah hin
   have hgb:=Ah (a:=b) (show i < b.length by omega)
   iterate 2 refine zv A8 ?_
   first | refine zv (BA Ap Ak) ?_ | refine zv (Bd Ap Ak) ?_
   refine zv (Bb Ak Br) ?_
   iterate 2 refine zv A8 ?_
   first | refine zv (BA Ap Ak) ?_ | refine zv (Bd Ap Ak) ?_
   refine zv (Bb Ak Br) ?_
   refine zv BP ?_
   refine ⟨by rfl,?_⟩
   refine cd (fun hc2=>?_) (fun hc2=>?_)
   ·try simp only [bne_iff_ne,ne_eq,bne_eq_false_iff_eq,Decidable.not_not] at hc2
    refine sg ?_
    refine qv A9 ?_
    refine AP ?_
    exact x1 (hr:=(DX (by rw [sG hga hgb hc2])))
   ·try simp only [bne_iff_ne,ne_eq,bne_eq_false_iff_eq,Decidable.not_not] at hc2
    refine AY ?_
    refine rg ?_
    refine qv A8 ?_
    refine qv Am ?_
    refine qv A9 ?_
    refine ⟨i+1,?_,(by simp only;omega),(tl [])⟩
    refine ⟨hin,fun j hj=>?_⟩
    rcases Nat.lt_or_ge j i with h1 | h1
    ·exact Aj.2 j h1
    ·obtain rfl:j=i:=by omega
     rw [hga,hgb,hc2]
  ·try simp at hc1
   refine Ad ?_
   refine sg ?_
   refine qv A9 ?_
   refine AP ?_
   exact x1 (hr:=(DX (by rw [lU (by exact_mod_cast hc0) fun j hj=>Aj.2 j (by omega)])))
end Go.Ab.Tryz.H
namespace Go.Ab.Tryz.H
open Go Go.Ab Go.Ab.Tryz Go.Proofs Go.Ab.Heap
theorem dn {h:Hp} (hh:¬ (1 <= h.ground.length /\ h.ground.length <= 5 /\ h.links.length=h.ground.length)):GX h=false:=by
 cases e:GX h with
 | false=>rfl
 | true=>exact absurd (Ij.1 e).1 hh
theorem Wj {h:Hp} {i:Nat} (hi:i < h.ground.length) (hr:(IX h i).length ≠ h.ground.length):GX h=false:=by
 cases e:GX h with
 | false=>rfl
 | true=>exact absurd ((Ij.1 e).2.1 i hi) hr
theorem O0 {h:Hp} {i:Nat} (hi:i < h.ground.length) (hr:IV h i=false):GX h=false:=by
 cases e:GX h with
 | false=>rfl
 | true =>
  have:=(Ij.1 e).2.2 i hi
  have h2:IV h i=true:=by simp only [IV,KI,Bool.and_eq_true,decide_eq_true_eq,beq_iff_eq];exact ⟨this.1,this.2.1⟩
  rw [h2] at hr;cases hr
theorem Nz {h:Hp} {i k:Nat} (hi:i < h.ground.length) (hk:k < h.ground.length) (hr:FN h i k=false):GX h=false:=by
 cases e:GX h with
 | false=>rfl
 | true =>
  have:=((Ij.1 e).2.2 i hi).2.2 k hk
  have h2:FN h i k=true:=by simp only [FN,KI,Bool.and_eq_true,decide_eq_true_eq,beq_iff_eq];exact this
  rw [h2] at hr;cases hr
theorem aM {h:Hp} {i k:Nat} (hi:i < h.ground.length) (e:i=k) (hr:¬ IY h i k=0):GX h=false:=by
 subst e
 exact O0 hi (by simp only [IV,Bool.and_eq_false_iff,beq_eq_false_iff_ne];exact .inr hr)
theorem KN {h:Hp} (e:GX h=false):validate h=1:=by simp [validate,e]
theorem YQ {h:Hp} (e:GX h=true):validate h=if (Lc h h.ground.length).contains false then 9 else 0:=by simp [validate,e]
theorem Iq {h:Hp} (e:GX h=false):Ih h=1:=by simp [Ih,e]
theorem VZ {h:Hp} (e:GX h=true):Ih h=if (Fe h (h.ground.length+1)).contains false then 9 else 0:=by simp [Ih,e]
theorem Yv {h:Hp} (h1:1 <= h.ground.length /\ h.ground.length <= 5 /\ h.links.length=h.ground.length) (h2:∀ i,i < h.ground.length -> (IX h i).length=h.ground.length) (h3:∀ i,i < h.ground.length -> IV h i=true /\ ∀ k,k < h.ground.length -> FN h i k=true):GX h=true:=by
 refine Ij.2 ⟨h1,h2,fun i hi=>?_⟩
 obtain ⟨a,b⟩:=h3 i hi
 simp only [IV,KI,Bool.and_eq_true,decide_eq_true_eq,beq_iff_eq] at a
 refine ⟨a.1,a.2,fun k hk=>?_⟩
 have:=b k hk
 simp only [FN,KI,Bool.and_eq_true,decide_eq_true_eq,beq_iff_eq] at this
 exact this
theorem XC {h:Hp} (h1:h.links.length=h.ground.length) {i:Nat} (hi:i < h.ground.length):h.links[i]?=some (IX h i):=by
 unfold IX
 rw [List.getD_eq_getElem?_getD,List.getElem?_eq_getElem (by omega)];rfl
theorem Qq {h:Hp} {i k:Nat} (h2:(IX h i).length=h.ground.length) (hk:k < h.ground.length):(IX h i)[k]?=some (IY h i k):=by
 unfold IY
 rw [List.getD_eq_getElem?_getD (l:=IX h i),List.getElem?_eq_getElem (by omega)];rfl
theorem Jh {d:List Bool} {i:Nat} (hi:i < d.length):d[i]?=some (Ns d i):=by
 unfold Ns
 rw [List.getD_eq_getElem?_getD,List.getElem?_eq_getElem hi];rfl
theorem f166 (h:Hp) (v:VH h) (i:Nat) (hi:i < h.ground.length):AR Tryz.prog 166 [Et h,i64 (i:Int)] (.one (.dv (i64 (h.sp.lim i)))):=by
 have hgg:=Kh hi
 have hgl:=v.get hi
 have hrl:=v.row i hi
 have hgb:=v.gb i hi
 have h5:=v.n5
 refine Bu Tryz.func166 rfl rfl (by rw [Tryz.ntmps166];simp) fun cx hP hn hg=>?_
 rw [Tryz.ntmps166] at hn
 rw [Bq,Bp]
 simp only [List.nil_append,List.append_nil,List.cons_append,BF,Nat.reduceAdd]
 refine sg ?_
 refine qp BX ?_
 refine qv A9 ?_
 refine sg ?_
 refine qv (AB F6) ?_
 refine qv (AL Av Bl) ?_
 refine qv A8 ?_
 first | refine qv (BA Ap Ak) ?_ | refine qv (Bd Ap Ak) ?_
 refine qv (Bb Ak Br) ?_
 refine qv A9 ?_
 refine AJ ?_
 refine sg ?_
 refine qv (AB EK) ?_
 refine qv (AL DF Da) ?_
 refine qv A8 ?_
 first | refine qv (BA CO Av) ?_ | refine qv (Bd CO Av) ?_
 refine qv (Bb Av Bl) ?_
 refine qv (BH CZ) ?_
 refine qv A8 ?_
 refine BD ?_
 refine Ag (ι:=Nat) (fun k=>⟨lk [(5,.dv (i64 (LH h i+sm (IY h i) k))),(17,.dv (ints (IX h i))),(18,.dv (i64 (((IX h i).length:Int)))),(19,.dv (i64 (k:Nat)))],AA []⟩) (fun k=>k <= h.ground.length /\ 0 <= sm (IY h i) k /\ sm (IY h i) k <= 2 * k) (fun k=>h.ground.length - k) 0 (by simp [sm]) (tl [] (hF:=by simp [Ck,Aa,lk,AA,isLive,Ac,sm]) (hM:=by simp [CV,Al,Aa,Ae,lk,AA,isLive,Ac,BK,BJ,Af,BI,BL,BO,BM,BN,sm])) ?_
 intro k Aj
 refine sg ?_
 refine qv BQ ?_
 refine AJ ?_
 refine cd (fun hc0=>?_) (fun hc0=>?_)
 ·try simp at hc0
  refine AY ?_
  refine AJ ?_
  refine BD ?_
  refine sg ?_
  have hk:k < h.ground.length:=by omega
  have hl2:=v.jY hi hk
  have hlb:=v.lb i k hi hk
  first | refine qv (BA Ap Ak) ?_ | refine qv (Bd Ap Ak) ?_
  refine qv (Bb Ak Br) ?_
  refine qv A9 ?_
  refine rg ?_
  iterate 2 refine qv A8 ?_
  refine qv Am ?_
  refine qv A9 ?_
  refine rg ?_
  refine qv Am ?_
  refine qv A8 ?_
  exact ⟨k+1,⟨hk,by simp only [sm];omega,by simp only [sm];omega⟩,(by simp only;omega),(tl [] (hF:=by simp [Ck,Aa,lk,AA,isLive,Ac,sm,Int.add_assoc]) (hM:=by simp [CV,Al,Aa,Ae,lk,AA,isLive,Ac,BK,BJ,Af,BI,BL,BO,BM,BN,sm,Int.add_assoc]))⟩
 ·try simp at hc0
  refine Ad ?_
  refine sg ?_
  refine qv A8 ?_
  refine qv A9 ?_
  refine AP ?_
  obtain rfl:k=h.ground.length:=by omega
  exact x1 (hr:=CW)
theorem f104 (h:Hp) (v:VH h) (i:Nat) (hi:i < h.ground.length):AR Tryz.prog 104 [Et h,i64 (i:Int)] (.one (.dv (i64 (h.sp.lim i)))):=by
 have hgg:=Kh hi
 have hgl:=v.get hi
 have hrl:=v.row i hi
 have hgb:=v.gb i hi
 have h5:=v.n5
 refine Bu Tryz.func104 rfl rfl (by rw [Tryz.ntmps104];simp) fun cx hP hn hg=>?_
 rw [Tryz.ntmps104] at hn
 rw [Bq,Bp]
 simp only [List.nil_append,List.append_nil,List.cons_append,BF,Nat.reduceAdd]
 refine sg ?_
 refine qp BX ?_
 refine qv A9 ?_
 refine sg ?_
 refine qv (AB F6) ?_
 refine qv (AL Av Bl) ?_
 refine qv A8 ?_
 first | refine qv (BA Ap Ak) ?_ | refine qv (Bd Ap Ak) ?_
 refine qv (Bb Ak Br) ?_
 refine qv A9 ?_
 refine AJ ?_
 refine sg ?_
 refine qv A9 ?_
 refine BD ?_
 refine Ag (ι:=Nat) (fun k=>⟨lk [(1,.dv (i64 (i:Int))),(2,.pt 2 0 0),(5,.dv (i64 (LH h i+sm (IY h i) k))),(6,.dv (i64 (k:Nat)))],AA [(2,0,some ⟨[.dv (.list ((h.links).map ints)),.dv (ints (h.ground))],0,27,0,false⟩)]⟩) (fun k=>k <= h.ground.length /\ 0 <= sm (IY h i) k /\ sm (IY h i) k <= 2 * k) (fun k=>h.ground.length - k) 0 (by simp [sm]) (tl [(2,2)] (hF:=by simp [Ck,Aa,lk,AA,isLive,Ac,sm]) (hM:=by simp [CV,Al,Aa,Ae,lk,AA,isLive,Ac,BK,BJ,Af,BI,BL,BO,BM,BN,sm])) ?_
 intro k Aj
 refine AJ ?_
 refine sg ?_
 refine qv A8 ?_
 refine qv (AB F6) ?_
 refine qv (AL Av Bl) ?_
 refine qv (BH CZ) ?_
 refine qv BQ ?_
 refine cd (fun hc0=>?_) (fun hc0=>?_)
 ·try simp at hc0
  refine AY ?_
  refine AJ ?_
  refine BD ?_
  refine rg ?_
  have hk:k < h.ground.length:=by omega
  have hl2:=v.jY hi hk
  have hlb:=v.lb i k hi hk
  refine qv A8 ?_
  refine qv (AB EK) ?_
  refine qv (AL DF Da) ?_
  refine qv A8 ?_
  first | refine qv (BA CO Av) ?_ | refine qv (Bd CO Av) ?_
  refine qv (Bb Av Bl) ?_
  refine qv A8 ?_
  first | refine qv (BA Ap Ak) ?_ | refine qv (Bd Ap Ak) ?_
  refine qv (Bb Ak Br) ?_
  refine qv Am ?_
  refine qv A9 ?_
  refine rg ?_
  refine qv A8 ?_
  refine qv Am ?_
  refine qv A9 ?_
  exact ⟨k+1,⟨hk,by simp only [sm];omega,by simp only [sm];omega⟩,(by simp only;omega),(tl [(2,2)] (hF:=by simp [Ck,Aa,lk,AA,isLive,Ac,sm,Int.add_assoc]) (hM:=by simp [CV,Al,Aa,Ae,lk,AA,isLive,Ac,BK,BJ,Af,BI,BL,BO,BM,BN,sm,Int.add_assoc]))⟩
 ·try simp at hc0
  refine Ad ?_
  refine sg ?_
  refine qv A8 ?_
  refine qv A9 ?_
  refine AP ?_
  obtain rfl:k=h.ground.length:=by omega
  exact x1 (hr:=CW)
set_option maxHeartbeats 4000000 in
theorem f94 (h:Hp):AR Tryz.prog 94 [Et h] (.one (.dv (i64 (validate h)))):=by
 refine Bu Tryz.func94 rfl rfl (by rw [Tryz.ntmps94];simp) fun cx hP hn hg=>?_
 rw [Tryz.ntmps94] at hn
 rw [Bq,Bp]
 simp only [List.nil_append,List.append_nil,List.cons_append,BF,Nat.reduceAdd]
 refine sg ?_
 refine qp BX ?_
 refine qv A9 ?_
 refine sg ?_
 refine qv (AB F6) ?_
 refine qv (AL Av Bl) ?_
 refine qv (BH CZ) ?_
 refine qv A9 ?_
 refine AJ ?_
 refine sg ?_
 refine qv A8 ?_
 refine Bo (f133 (h.ground.length) 1 5) ?_
 refine qv Bn ?_
 refine qx A8 (fun Ia=>?_) (fun Ia=>?_)
 ·try simp at Ia
  iterate 5 refine qk ?_
  refine qv Ai ?_
  refine Dw (hb:=by first | rfl | simp | simp_all) (ht:=?_)
  refine sg ?_
  refine qv A9 ?_
  refine AP ?_
  exact x1 (hr:=(CW (by rw [KN (dn (by rintro ⟨a,b,c⟩;simp_all [KI];try omega))])))
 ·try simp at Ia
  refine qv (AB EK) ?_
  refine qv (AL DF Da) ?_
  refine qv (BH Ka) ?_
  refine qv A8 ?_
  refine qv BP ?_
  refine qv Ai ?_
  refine cd (fun hc0=>?_) (fun hc0=>?_)
  ·try simp at hc0
   refine sg ?_
   refine qv A9 ?_
   refine AP ?_
   exact x1 (hr:=(CW (by rw [KN (dn (by rintro ⟨a,b,c⟩;simp_all [KI];try omega))])))
  ·try simp at hc0
   have hn:1 <= h.ground.length /\ h.ground.length <= 5 /\ h.links.length=h.ground.length:=by
    simp only [KI,Bool.and_eq_true,decide_eq_true_eq] at Ia
    exact ⟨by omega,by omega,by omega⟩
   refine AY ?_
   refine AJ ?_
   refine sg ?_
   iterate 2 refine qv A8 ?_
   refine BD ?_
   refine Ag (ι:=Nat) (fun i=>⟨lk [(1,.pt 1 0 0),(3,.dv (i64 ((h.ground.length:Int)))),(23,.dv (i64 ((h.ground.length:Int)))),(24,.dv (i64 (i:Nat)))],AA [(1,0,some ⟨[.dv (.list ((h.links).map ints)),.dv (ints (h.ground))],0,27,0,false⟩)]⟩) (fun i=>i <= h.ground.length /\ ∀ j,j < i -> (IX h j).length=h.ground.length) (fun i=>h.ground.length - i) 0 (by simp) (tl [(1,1)]) ?_
   intro i Aj
   refine sg ?_
   refine qv BQ ?_
   refine AJ ?_
   refine cd (fun hc1=>?_) (fun hc1=>?_)
   ·try simp at hc1
    refine AY ?_
    refine AJ ?_
    refine BD ?_
    refine sg ?_
    refine qv A8 ?_
    refine qv A9 ?_
    refine sg ?_
    have hi0:i < h.ground.length:=by omega
    have hgl:=XC hn.2.2 hi0
    refine qv (AB EK) ?_
    refine qv (AL DF Da) ?_
    refine qv A8 ?_
    first | refine qv (BA CO Av) ?_ | refine qv (Bd CO Av) ?_
    refine qv (Bb Av Bl) ?_
    refine qv (BH CZ) ?_
    refine qv A8 ?_
    refine qv BP ?_
    refine cd (fun hc2=>?_) (fun hc2=>?_)
    ·try simp at hc2
     refine sg ?_
     refine qv A9 ?_
     refine AP ?_
     exact x1 (hr:=(CW (by rw [KN (Wj hi0 (by exact_mod_cast hc2))])))
    ·try simp at hc2
     refine AY ?_
     refine rg ?_
     refine qv Am ?_
     refine qv A8 ?_
     refine ⟨i+1,?_,(by simp only;omega),(tl [(1,1)])⟩
     refine ⟨by omega,fun j hj=>?_⟩
     rcases Nat.lt_or_ge j i with h1 | h1
     ·exact Aj.2 j h1
     ·obtain rfl:j=i:=by omega
      exact_mod_cast hc2
   ·try simp at hc1
    refine Ad ?_
    refine AJ ?_
    refine sg ?_
    have hrow:∀ j,j < h.ground.length -> (IX h j).length=h.ground.length:=fun j hj=>Aj.2 j (by omega)
    iterate 2 refine qv A8 ?_
    refine BD ?_
    refine Ag (ι:=Nat) (fun i=>⟨lk [(1,.pt 1 0 0),(3,.dv (i64 ((h.ground.length:Int)))),(36,.dv (i64 ((h.ground.length:Int)))),(37,.dv (i64 (i:Nat)))],AA [(1,0,some ⟨[.dv (.list ((h.links).map ints)),.dv (ints (h.ground))],0,27,0,false⟩)]⟩) (fun i=>i <= h.ground.length /\ ∀ j,j < i -> IV h j=true /\ ∀ k,k < h.ground.length -> FN h j k=true) (fun i=>h.ground.length - i) 0 (by simp) (tl [(1,1)]) ?_
    intro i Es
    refine sg ?_
    refine qv BQ ?_
    refine AJ ?_
    refine cd (fun hc3=>?_) (fun hc3=>?_)
    ·try simp at hc3
     refine AY ?_
     refine AJ ?_
     refine BD ?_
     refine sg ?_
     refine qv A8 ?_
     refine qv A9 ?_
     refine AJ ?_
     refine sg ?_
     have hi1:i < h.ground.length:=by omega
     have hgl:=XC hn.2.2 hi1
     have hgg:=Kh hi1
     have hll:=Qq (hrow i hi1) hi1
     refine qv (AB F6) ?_
     refine qv (AL Av Bl) ?_
     refine qv A8 ?_
     first | refine qv (BA Ap Ak) ?_ | refine qv (Bd Ap Ak) ?_
     refine qv (Bb Ak Br) ?_
     refine Bo (f133 (LH h i) 0 2) ?_
     refine qv Bn ?_
     refine qx A8 (fun V4=>?_) (fun V4=>?_)
     ·try simp at V4
      iterate 9 refine qk ?_
      refine qv Ai ?_
      refine Dw (hb:=by first | rfl | simp | simp_all) (ht:=?_)
      refine sg ?_
      refine qv A9 ?_
      refine AP ?_
      exact x1 (hr:=(CW (by rw [KN (O0 hi1 (by simp_all [IV]))])))
     ·try simp at V4
      refine qv (AB EK) ?_
      refine qv (AL DF Da) ?_
      refine qv A8 ?_
      first | refine qv (BA CO Av) ?_ | refine qv (Bd CO Av) ?_
      refine qv (Bb Av Bl) ?_
      refine qv A8 ?_
      first | refine qv (BA Ap Ak) ?_ | refine qv (Bd Ap Ak) ?_
      refine qv (Bb Ak Br) ?_
      refine qv BP ?_
      refine qv Ai ?_
      refine cd (fun hc4=>?_) (fun hc4=>?_)
      ·try simp at hc4
       refine sg ?_
       refine qv A9 ?_
       refine AP ?_
       exact x1 (hr:=(CW (by rw [KN (O0 hi1 (by simp_all [IV]))])))
      ·try simp at hc4
       have hgo:IV h i=true:=by
        simp only [IV,Bool.and_eq_true,beq_iff_eq]
        exact ⟨by simpa using V4,by simpa using hc4⟩
       refine AY ?_
       refine sg ?_
       iterate 2 refine qv A8 ?_
       refine BD ?_
       refine Ag (ι:=Nat) (fun k=>⟨lk [(1,.pt 1 0 0),(3,.dv (i64 ((h.ground.length:Int)))),(5,.dv (i64 (i:Nat))),(36,.dv (i64 ((h.ground.length:Int)))),(37,.dv (i64 (i:Nat))),(58,.dv (i64 ((h.ground.length:Int)))),(59,.dv (i64 (k:Nat)))],AA [(1,0,some ⟨[.dv (.list ((h.links).map ints)),.dv (ints (h.ground))],0,27,0,false⟩)]⟩) (fun k=>k <= h.ground.length /\ ∀ j,j < k -> FN h i j=true) (fun k=>h.ground.length - k) 0 (by simp) (tl [(1,1)]) ?_
       intro k Gy
       refine sg ?_
       refine qv BQ ?_
       refine AJ ?_
       refine cd (fun XW=>?_) (fun XW=>?_)
       ·try simp at XW
        refine AY ?_
        refine AJ ?_
        refine BD ?_
        refine sg ?_
        refine qv A8 ?_
        refine qv A9 ?_
        refine AJ ?_
        have hk2:k < h.ground.length:=by omega
        have hgk:=XC hn.2.2 hk2
        have hl2:=Qq (hrow i hi1) hk2
        have hl3:=Qq (hrow k hk2) hi1
        refine rd mixed ?_
        refine zv (AB EK) ?_
        refine zv (AL DF Da) ?_
        refine zv A8 ?_
        first | refine zv (BA CO Av) ?_ | refine zv (Bd CO Av) ?_
        refine zv (Bb Av Bl) ?_
        refine zv A8 ?_
        first | refine zv (BA Ap Ak) ?_ | refine zv (Bd Ap Ak) ?_
        refine zv (Bb Ak Br) ?_
        refine GA (R:=[]) (f133 (IY h i k) 0 2) ?_
        refine zv Bn ?_
        refine zx A8 (fun zH=>?_) (fun zH=>?_)
        ·try simp at zH
         iterate 17 refine zk ?_
         refine zv Ai ?_
         refine ⟨by rfl,?_⟩
         refine Dw (hb:=by first | rfl | simp | simp_all) (ht:=?_)
         refine sg ?_
         refine qv A9 ?_
         refine AP ?_
         exact x1 (hr:=(CW (by rw [KN (Nz hi1 hk2 (by simp_all [FN]))])))
        ·try simp at zH
         refine zv (AB EK) ?_
         refine zv (AL DF Da) ?_
         refine zv A8 ?_
         first | refine zv (BA CO Av) ?_ | refine zv (Bd CO Av) ?_
         refine zv (Bb Av Bl) ?_
         refine zv A8 ?_
         first | refine zv (BA Ap Ak) ?_ | refine zv (Bd Ap Ak) ?_
         refine zv (Bb Ak Br) ?_
         refine zv (AB EK) ?_
         refine zv (AL DF Da) ?_
         refine zv A8 ?_
         first | refine zv (BA CO Av) ?_ | refine zv (Bd CO Av) ?_
         refine zv (Bb Av Bl) ?_
         refine zv A8 ?_
         first | refine zv (BA Ap Ak) ?_ | refine zv (Bd Ap Ak) ?_
         refine zv (Bb Ak Br) ?_
         refine zv BP ?_
         refine zv Ai ?_
         refine ⟨by rfl,?_⟩
         refine cd (fun hc6=>?_) (fun hc6=>?_)
         ·try simp at hc6
          refine sg ?_
          refine qv A9 ?_
          refine AP ?_
          exact x1 (hr:=(CW (by rw [KN (Nz hi1 hk2 (by simp_all [FN]))])))
         ·try simp at hc6
          refine AY ?_
          refine rg ?_
          refine qv Am ?_
          refine qv A8 ?_
          refine ⟨k+1,?_,(by simp only;omega),(tl [(1,1)])⟩
          refine ⟨by omega,fun j hj=>?_⟩
          rcases Nat.lt_or_ge j k with h1 | h1
          ·exact Gy.2 j h1
          ·obtain rfl:j=k:=by omega
           simp_all [FN,KI];try omega
       ·try simp at XW
        refine Ad ?_
        refine rg ?_
        refine qv Am ?_
        refine qv A8 ?_
        refine ⟨i+1,?_,(by simp only;omega),(tl [(1,1)])⟩
        refine ⟨by omega,fun j hj=>?_⟩
        rcases Nat.lt_or_ge j i with h1 | h1
        ·exact Es.2 j h1
        ·obtain rfl:j=i:=by omega
         exact ⟨hgo,fun k hk=>Gy.2 k (by omega)⟩
    ·try simp at hc3
     refine Ad ?_
     refine sg ?_
     refine qv A8 ?_
     have hok:GX h=true:=Yv hn hrow fun j hj=>Es.2 j (by omega)
     refine qr (wW FP ze4 H8 by4) ?_
     refine qv A9 ?_
     refine AJ ?_
     refine sg ?_
     iterate 2 refine qv A8 ?_
     refine BD ?_
     refine Ag (ι:=Nat) (fun r=>⟨lk [(1,.pt 1 0 0),(3,.dv (i64 ((h.ground.length:Int)))),(7,.sl 7 0 0 h.ground.length),(95,.dv (i64 ((h.ground.length:Int)))),(96,.dv (i64 (r:Nat)))],AA [(1,0,some ⟨[.dv (.list ((h.links).map ints)),.dv (ints (h.ground))],0,27,0,false⟩),(7,0,some (Ut 4 (Lc h r)))]⟩) (fun r=>r <= h.ground.length) (fun r=>h.ground.length - r) 0 (by simp) (tl [(1,1),(7,94)] (hF:=by simp [Ck,Aa,lk,AA,isLive,Ac,Lc,Int.toNat_natCast]) (hM:=by simp [CV,Al,Aa,Ae,lk,AA,isLive,Ac,BK,BJ,Af,BI,BL,BO,BM,BN,Lc,Int.toNat_natCast])) ?_
     intro r hφ3
     refine sg ?_
     refine qv BQ ?_
     refine AJ ?_
     refine cd (fun uP=>?_) (fun uP=>?_)
     ·try simp at uP
      have hr3:r < h.ground.length:=by exact_mod_cast uP
      refine AY ?_
      refine AJ ?_
      refine BD ?_
      refine sg ?_
      iterate 2 refine qv A8 ?_
      refine BD ?_
      refine Ag (ι:=Nat) (fun i=>⟨lk [(1,.pt 1 0 0),(3,.dv (i64 ((h.ground.length:Int)))),(7,.sl 7 0 0 h.ground.length),(95,.dv (i64 ((h.ground.length:Int)))),(96,.dv (i64 (r:Nat))),(98,.dv (i64 ((h.ground.length:Int)))),(99,.dv (i64 (i:Nat)))],AA [(1,0,some ⟨[.dv (.list ((h.links).map ints)),.dv (ints (h.ground))],0,27,0,false⟩),(7,0,some (Ut 4 (RX h (Lc h r) i)))]⟩) (fun i=>i <= h.ground.length) (fun i=>h.ground.length - i) 0 (by simp) (tl [(1,1),(7,7)] (hF:=by simp [Ck,Aa,lk,AA,isLive,Ac,RX]) (hM:=by simp [CV,Al,Aa,Ae,lk,AA,isLive,Ac,BK,BJ,Af,BI,BL,BO,BM,BN,RX])) ?_
      intro i hφ4
      refine sg ?_
      refine qv BQ ?_
      refine AJ ?_
      refine cd (fun hc8=>?_) (fun hc8=>?_)
      ·try simp at hc8
       have hi4:i < h.ground.length:=by exact_mod_cast hc8
       have hgl:=XC hn.2.2 hi4
       have hgg:=Kh hi4
       refine AY ?_
       refine AJ ?_
       refine BD ?_
       refine sg ?_
       refine qv A8 ?_
       refine qv A9 ?_
       refine sg ?_
       iterate 2 refine qv A8 ?_
       refine BD ?_
       refine Ag (ι:=Nat) (fun k=>⟨lk [(1,.pt 1 0 0),(3,.dv (i64 ((h.ground.length:Int)))),(7,.sl 7 0 0 h.ground.length),(8,.dv (i64 (i:Nat))),(95,.dv (i64 ((h.ground.length:Int)))),(96,.dv (i64 (r:Nat))),(98,.dv (i64 ((h.ground.length:Int)))),(99,.dv (i64 (i:Nat))),(102,.dv (i64 ((h.ground.length:Int)))),(103,.dv (i64 (k:Nat)))],AA [(1,0,some ⟨[.dv (.list ((h.links).map ints)),.dv (ints (h.ground))],0,27,0,false⟩),(7,0,some (Ut 4 (inn h (RX h (Lc h r) i) i k)))]⟩) (fun k=>k <= h.ground.length) (fun k=>h.ground.length - k) 0 (by simp) (tl [(1,1),(7,7)] (hF:=by simp [Ck,Aa,lk,AA,isLive,Ac,inn]) (hM:=by simp [CV,Al,Aa,Ae,lk,AA,isLive,Ac,BK,BJ,Af,BI,BL,BO,BM,BN,inn])) ?_
       intro k A2L
       refine sg ?_
       refine qv BQ ?_
       refine AJ ?_
       refine cd (fun uO=>?_) (fun uO=>?_)
       ·try simp at uO
        have hk5:k < h.ground.length:=by exact_mod_cast uO
        have hl2:=Qq (hrow i hi4) hk5
        have hil:=Jd (h:=h) (d:=RX h (Lc h r) i) (i:=i) k
        rw [KS,KP] at hil
        have hbi:=Jh (d:=inn h (RX h (Lc h r) i) i k) (i:=i) (by omega)
        have hbk:=Jh (d:=inn h (RX h (Lc h r) i) i k) (i:=k) (by omega)
        refine AY ?_
        refine AJ ?_
        refine BD ?_
        refine sg ?_
        refine qv A8 ?_
        refine qv A9 ?_
        refine rg ?_
        iterate 4 refine qv A8 ?_
        refine qv (CB FP H8) ?_
        refine qv (Qo H8 YG (hq:=hbi)) ?_
        refine qx A8 (fun oN=>?_) (fun oN=>?_)
        ·try simp at oN
         iterate 6 refine qk ?_
         refine qv Ai ?_
         refine qv A8 ?_
         iterate 15 refine qk ?_
         refine qv Ai ?_
         refine qv (CB FP H8) ?_
         have hneg:LH h i <= 0 -> decide (0 < LH h i)=false:=fun hh=>decide_eq_false (by omega)
         refine qs (LA H8) ?_
         refine rg ?_
         refine qv Am ?_
         refine qv A8 ?_
         exact ⟨k+1,hk5,(by simp only;omega),(tl [(1,1),(7,7)] (hF:=by simp [Ck,Aa,lk,AA,isLive,Ac,inn, *]) (hM:=by simp [CV,Al,Aa,Ae,lk,AA,isLive,Ac,BK,BJ,Af,BI,BL,BO,BM,BN,inn, *]))⟩
        ·try simp at oN
         refine qv (AB F6) ?_
         refine qv (AL Av Bl) ?_
         refine qv A8 ?_
         first | refine qv (BA Ap Ak) ?_ | refine qv (Bd Ap Ak) ?_
         refine qv (Bb Ak Br) ?_
         refine qv Dj ?_
         refine qv Ai ?_
         refine qx A8 (fun TS=>?_) (fun TS=>?_)
         ·try simp at TS
          iterate 15 refine qk ?_
          refine qv Ai ?_
          refine qv (CB FP H8) ?_
          have hneg:LH h i <= 0 -> decide (0 < LH h i)=false:=fun hh=>decide_eq_false (by omega)
          refine qs (LA H8) ?_
          refine rg ?_
          refine qv Am ?_
          refine qv A8 ?_
          exact ⟨k+1,hk5,(by simp only;omega),(tl [(1,1),(7,7)] (hF:=by simp [Ck,Aa,lk,AA,isLive,Ac,inn, *]) (hM:=by simp [CV,Al,Aa,Ae,lk,AA,isLive,Ac,BK,BJ,Af,BI,BL,BO,BM,BN,inn, *]))⟩
         ·try simp at TS
          iterate 2 refine qv A8 ?_
          refine qv (CB FP H8) ?_
          refine qv (Qo H8 YG (hq:=hbk)) ?_
          refine qx A8 (fun oM=>?_) (fun oM=>?_)
          ·try simp at oM
           refine qv (AB EK) ?_
           refine qv (AL DF Da) ?_
           refine qv A8 ?_
           first | refine qv (BA CO Av) ?_ | refine qv (Bd CO Av) ?_
           refine qv (Bb Av Bl) ?_
           refine qv A8 ?_
           first | refine qv (BA Ap Ak) ?_ | refine qv (Bd Ap Ak) ?_
           refine qv (Bb Ak Br) ?_
           refine qv Dj ?_
           iterate 2 refine qv Ai ?_
           refine qv (CB FP H8) ?_
           have hneg:LH h i <= 0 -> decide (0 < LH h i)=false:=fun hh=>decide_eq_false (by omega)
           refine qs (LA H8) ?_
           refine rg ?_
           refine qv Am ?_
           refine qv A8 ?_
           exact ⟨k+1,hk5,(by simp only;omega),(tl [(1,1),(7,7)] (hF:=by simp [Ck,Aa,lk,AA,isLive,Ac,inn, *]) (hM:=by simp [CV,Al,Aa,Ae,lk,AA,isLive,Ac,BK,BJ,Af,BI,BL,BO,BM,BN,inn, *]))⟩
          ·try simp at oM
           iterate 9 refine qk ?_
           iterate 2 refine qv Ai ?_
           refine qv (CB FP H8) ?_
           have hneg:LH h i <= 0 -> decide (0 < LH h i)=false:=fun hh=>decide_eq_false (by omega)
           refine qs (LA H8) ?_
           refine rg ?_
           refine qv Am ?_
           refine qv A8 ?_
           exact ⟨k+1,hk5,(by simp only;omega),(tl [(1,1),(7,7)] (hF:=by simp [Ck,Aa,lk,AA,isLive,Ac,inn, *]) (hM:=by simp [CV,Al,Aa,Ae,lk,AA,isLive,Ac,BK,BJ,Af,BI,BL,BO,BM,BN,inn, *]))⟩
       ·try simp at uO
        have hps:RX h (Lc h r) (i+1)=inn h (RX h (Lc h r) i) i k:=by rw [show k=h.ground.length by omega];rfl
        refine Ad ?_
        refine rg ?_
        refine qv Am ?_
        refine qv A8 ?_
        exact ⟨i+1,hi4,(by simp only;omega),(tl [(1,1),(7,7)] (hF:=by simp [Ck,Aa,lk,AA,isLive,Ac,hps]) (hM:=by simp [CV,Al,Aa,Ae,lk,AA,isLive,Ac,BK,BJ,Af,BI,BL,BO,BM,BN,hps]))⟩
      ·try simp at hc8
       have hrd:Lc h (r+1)=RX h (Lc h r) i:=by rw [show i=h.ground.length by omega];rfl
       refine Ad ?_
       refine rg ?_
       refine qv Am ?_
       refine qv A8 ?_
       exact ⟨r+1,hr3,(by simp only;omega),(tl [(1,1),(7,7)] (hF:=by simp [Ck,Aa,lk,AA,isLive,Ac,hrd]) (hM:=by simp [CV,Al,Aa,Ae,lk,AA,isLive,Ac,BK,BJ,Af,BI,BL,BO,BM,BN,hrd]))⟩
     ·try simp at uP
      obtain rfl:r=h.ground.length:=by omega
      refine Ad ?_
      refine AJ ?_
      refine sg ?_
      refine qv A8 ?_
      refine Bo (f134 (Lc h h.ground.length) (by rw [KP];omega)) ?_ (ha:=(CG (dM (L:=Lc h h.ground.length) (by simp only [AA,reduceIte,Nat.reduceEqDiff]<;>rfl) trivial (KP _) (fun _=>trivial)) (CG Bh EH)))
      refine cd (fun ZK=>?_) (fun ZK=>?_)
      ·skip
       refine sg ?_
       refine qv A9 ?_
       refine AP ?_
       exact x1 (hr:=(CW (by rw [YQ hok,if_pos ZK])))
      ·skip
       refine AY ?_
       refine sg ?_
       refine qv A9 ?_
       refine AP ?_
       exact x1 (hr:=(CW (by rw [YQ hok,if_neg (by rw [ZK];simp)])))
end Go.Ab.Tryz.H
