/- Ab23, Ab24. -/
import Derived.Test.YtjcecljhjailiaaGreatDoorBogG05
set_option linter.unusedVariables false
namespace Go.Ab
open Go.RowKit
theorem wrap_i64 {n:Int} (h1:-9223372036854775808 <= n) (h2:n < 9223372036854775808):IntKind.i64.wrap n=n:=by
 have e:IntKind.i64.wrap n=(n+9223372036854775808) % 18446744073709551616 - 9223372036854775808:=by
  simp only [IntKind.wrap,IntKind.bits,IntKind.signed]
  first
  | rfl
  | (simp;omega)
 rw [e]
 omega
section
variable {P:Program} {S:St} {x y z c:Operand} {t e ty ty':TypeId} {k k':IntKind} {a b n:Int} {r s:SV} {ob:Option BG} {blk:BG} {f off:Nat} {cs ds:List DV} {l:List DV} {tg g o len sz by':Nat} {bb cc:Bool}
theorem JC (h:S.ev x=r):AZ P S (.move x)=some (.val r):=by simp only [AZ,h]
theorem Ep (h:S.ev x=r):AZ P S (.assign x)=some (.val r):=by simp only [AZ,h]
theorem zw (hc:S.ev c=.dv (.bool bb)) (hx:S.ev x=r) (hy:S.ev y=s) {q:SV} (hq:Pq bb r s=q):AZ P S (.pick c x y)=some (.val q):=by simp only [AZ,hc,hx,hy,hq]
theorem M4 {op:BinOp} {d:DV} (hx:S.ev x=.dv (.int k a)) (hy:S.ev y=.dv (.int k b)) (hop:op ≠ .shl /\ op ≠ .shr) (h:EI op k a b=some d):AZ P S (.binOp op t x y ty)=some (.val (.dv d)):=by
 simp only [AZ,hx,hy,EM]
 cases op<;>simp_all
theorem A4A (hx:S.ev x=.dv (.int .i64 a)) (hy:S.ev y=.dv (.int .i64 b)) (h1:-9223372036854775808 <= a+b) (h2:a+b < 9223372036854775808):AZ P S (.binOp .add t x y ty)=some (.val (.dv (.int .i64 (a+b)))) :=
 M4 hx hy (by simp) (by simp only [EI,wrap_i64 h1 h2])
theorem A3V (hx:S.ev x=.dv (.int .i64 a)) (hy:S.ev y=.dv (.int .i64 b)) (h1:-9223372036854775808 <= a - b) (h2:a - b < 9223372036854775808):AZ P S (.binOp .sub t x y ty)=some (.val (.dv (.int .i64 (a - b)))) :=
 M4 hx hy (by simp) (by simp only [EI,wrap_i64 h1 h2])
theorem A40 (hx:S.ev x=.dv (.int .i64 a)) (hy:S.ev y=.dv (.int .i64 b)) (h1:-9223372036854775808 <= a * b) (h2:a * b < 9223372036854775808):AZ P S (.binOp .mul t x y ty)=some (.val (.dv (.int .i64 (a * b)))) :=
 M4 hx hy (by simp) (by simp only [EI,wrap_i64 h1 h2])
theorem A47 (hx:S.ev x=.dv (.int k a)) (hy:S.ev y=.dv (.int k b)):AZ P S (.binOp .eql t x y ty)=some (.val (.dv (.bool (a == b)))):=M4 hx hy (by simp) rfl
theorem A3Z (hx:S.ev x=.dv (.int k a)) (hy:S.ev y=.dv (.int k b)):AZ P S (.binOp .neq t x y ty)=some (.val (.dv (.bool (a != b)))):=M4 hx hy (by simp) rfl
theorem A42 (hx:S.ev x=.dv (.int k a)) (hy:S.ev y=.dv (.int k b)):AZ P S (.binOp .lss t x y ty)=some (.val (.dv (.bool (decide (a < b))))):=M4 hx hy (by simp) rfl
theorem A43 (hx:S.ev x=.dv (.int k a)) (hy:S.ev y=.dv (.int k b)):AZ P S (.binOp .leq t x y ty)=some (.val (.dv (.bool (decide (a <= b))))):=M4 hx hy (by simp) rfl
theorem A45 (hx:S.ev x=.dv (.int k a)) (hy:S.ev y=.dv (.int k b)):AZ P S (.binOp .gtr t x y ty)=some (.val (.dv (.bool (decide (b < a))))):=M4 hx hy (by simp) rfl
theorem A46 (hx:S.ev x=.dv (.int k a)) (hy:S.ev y=.dv (.int k b)):AZ P S (.binOp .geq t x y ty)=some (.val (.dv (.bool (decide (b <= a))))):=M4 hx hy (by simp) rfl
theorem A3X (hx:S.ev x=.dv (.int .i64 a)) (hy:S.ev y=.dv (.int .i64 b)) (h0:b ≠ 0) (h1:-9223372036854775808 <= a.tdiv b) (h2:a.tdiv b < 9223372036854775808):AZ P S (.binOp .quo t x y ty)=some (.val (.dv (.int .i64 (a.tdiv b)))) :=
 M4 hx hy (by simp) (by simp only [EI,h0,if_false,wrap_i64 h1 h2])
theorem A3W (hx:S.ev x=.dv (.int k a)) (hy:S.ev y=.dv (.int k b)) (h0:b ≠ 0):AZ P S (.binOp .rem t x y ty)=some (.val (.dv (.int k (a.tmod b)))) :=
 M4 hx hy (by simp) (by simp only [EI,h0,if_false])
theorem A49 (hx:S.ev x=.dv (.bool bb)) (hy:S.ev y=.dv (.bool cc)) (hP:MQ P t=true):AZ P S (.binOp .eql t x y ty)=some (.val (.dv (.bool (bb == cc)))):=by simp only [AZ,hx,hy,EM,hP,if_true,Option.map_some]
theorem A3Y (hx:S.ev x=.dv (.bool bb)):AZ P S (.unOp .not t x)=some (.val (.dv (.bool !bb))):=by simp only [AZ,hx,rQ,Option.map_some]
theorem vG (hx:S.look x=(.dv (.DU cs),ob)) (hf:CJ P t f=some off) {cs':List DV} (hc:cs.drop off=cs'):AZ P S (.fieldAddr t x f)=some (.val (.dv (.DU cs'))):=by
 simp only [AZ,hx,Ol,hf,Option.map_some,hc]
theorem qB (hx:S.look x=(.pt tg g o,some blk)) (hf:CJ P t f=some off) {o':Nat} (ho:o+off=o'):AZ P S (.fieldAddr t x f)=some (.val (.pt tg g o')):=by
 simp only [AZ,hx,Ol,hf,Option.map_some,ho]
theorem zy {d:DV} (hx:S.look x=(.dv (.DU cs),ob)) (hs:FC P t=some sz) (ha:Fy P t=some false) (hc:cs[0]?=some d):AZ P S (.load t x)=some (.val (.dv d)):=by
 simp only [AZ,hx,Dt,hs,ha,hc,Option.map_some]
theorem vF (hx:S.look x=(.dv (.DU cs),ob)) (hs:FC P t=some sz) (ha:Fy P t=some true) (hl:sz <= cs.length) {cs':List DV} (hc:cs.take sz=cs'):AZ P S (.load t x)=some (.val (.dv (.agg cs'))):=by
 simp only [AZ,hx,Dt,hs,ha,hl,if_true,hc,Option.map_some]
theorem Xh (hx:S.look x=(.pt tg g o,some blk)) (hs:FC P t=some sz) (ha:Fy P t=some false) (hc:blk.cells[o]?=some r):AZ P S (.load t x)=some (.val r):=by
 simp only [AZ,hx,Dt,hs,ha,hc,Option.map_some]
theorem pz (hx:S.look x=(.pt tg g o,some blk)) (hs:FC P t=some sz) (ha:Fy P t=some true) (hl:o+sz <= blk.cells.length) {r:SV} (hc:N8 ((blk.cells.drop o).take sz)=r):AZ P S (.load t x)=some (.val r):=by
 simp only [AZ,hx,Dt,hs,ha,hl,if_true,hc,Option.map_some]
theorem gq {α:Type} {F:α -> DV} {L:List α} {q:α} (hx:S.look x=(.dv (.list (L.map F)),ob)) (hy:S.ev y=.dv (.int k n)) (h0:0 <= n) (hq:L[n.toNat]?=some q) (he:D8 P t=some e) (hs:FC P e=some (F q).cells.length) :
  AZ P S (.indexAddr t x y)=some (.val (.dv (.DU (F q).cells))):=by
 have h1:n.toNat < (L.map F).length:=by rw [List.length_map];exact (List.getElem?_eq_some_iff.1 hq).1
 have h2:(L.map F)[n.toNat]=F q:=by
  rw [List.getElem_map]
  exact congrArg F (List.getElem?_eq_some_iff.1 hq).2
 simp only [AZ,hx,hy,Og,he]
 rw [dif_pos ⟨h0,h1⟩,if_pos (by rw [h2];exact hs),h2]
 rfl
theorem qA {α:Type} {F:α -> DV} {L:List α} {q:α} {i:Nat} (hx:S.look x=(.dv (.list (L.map F)),ob)) (hy:S.ev y=.dv (.int k (i:Int))) (hq:L[i]?=some q) (he:D8 P t=some e) (hs:FC P e=some (F q).cells.length) :
  AZ P S (.indexAddr t x y)=some (.val (.dv (.DU (F q).cells))):=gq hx hy (Int.natCast_nonneg i) (by rw [Int.toNat_natCast];exact hq) he hs
theorem q9 (hx:S.look x=(.sl tg g o len,some blk)) (hy:S.ev y=.dv (.int k n)) (h0:0 <= n) (h1:n.toNat < len) (he:D8 P t=some e) (hs:FC P e=some blk.CS) {o':Nat} (ho:(o+n.toNat) * blk.CS=o') :
  AZ P S (.indexAddr t x y)=some (.val (.pt tg g o')):=by
 simp only [AZ,hx,hy,Og,he]
 rw [if_pos ⟨h0,h1,hs⟩,ho]
 rfl
theorem A44 {α:Type} {F:α -> DV} {L:List α} (hx:S.look x=(.dv (.list (L.map F)),ob)) (hs:DL P t=true):AZ P S (.call { callee:=.builtin .len,args:=#[x],argTypes:=#[t] })=some (.val (.dv (.int .i64 (L.length:Int)))):=by
 simp only [AZ,Hw,Ee,hx,TM,hs,if_true,Option.map_some,List.length_map]
theorem A01 (hx:S.look x=(.sl tg g o len,some blk)) (hs:DL P t=true):AZ P S (.call { callee:=.builtin .len,args:=#[x],argTypes:=#[t] })=some (.val (.dv (.int .i64 (len:Int)))):=by
 simp only [AZ,Hw,Ee,hx,TM,hs,if_true,Option.map_some]
theorem A02 (hx:S.look x=(.Bw,ob)) (hs:DL P t=true):AZ P S (.call { callee:=.builtin .len,args:=#[x],argTypes:=#[t] })=some (.val (.dv (.int .i64 0))):=by
 simp only [AZ,Hw,Ee,hx,TM,hs,if_true,Option.map_some]
theorem A00 {st:ByteArray} (hx:S.look x=(.dv (.str st),ob)) (hs:Fw P t=true):AZ P S (.call { callee:=.builtin .len,args:=#[x],argTypes:=#[t] })=some (.val (.dv (.int .i64 (st.size:Int)))):=by
 simp only [AZ,Hw,Ee,hx,TM,hs,if_true,Option.map_some]
theorem A41 {ts:Array TypeId} (hx:S.ev x=.dv (.int k a)) (hy:S.ev y=.dv (.int k' b)):AZ P S (.call { callee:=.builtin .max,args:=#[x,y],argTypes:=ts })=some (.val (.dv (.int k (if b > a then b else a)))):=by
 simp only [AZ,Hw,Ee,hx,hy,Li,if_true,Option.map_some]
theorem vE (hx:S.look x=(s,ob)) (h:OY (s,ob)=some r):AZ P S (.nilCheck x)=some (.val r):=by simp only [AZ,hx,h,Option.map_some]
theorem jw {i:Nat} (hx:S.ev x=s) (h:KA s i=some r):AZ P S (.extract x i)=some (.val r):=by simp only [AZ,hx,h,Option.map_some]
theorem A03 (hx:S.ev x=.dv (.int k a)) (h:U0 P t ty (.dv (.int k a))=some r):AZ P S (.convert t ty x)=some (.val r):=by simp only [AZ,hx,h,Option.map_some,Option.some_or]
theorem A48 {cc:List SV} (hx:S.ev x=s) (hc:Cn s=some cc):AZ P S (.box t x)=some (.mk ⟨cc,0,t,0,false⟩ 0):=by simp only [AZ,hx,hc,Option.map_some]
theorem vI {cc:List SV} (hc:D6 P t=some cc):AZ P S (.alloc t)=some (.mk ⟨cc,0,t,0,false⟩ 0):=by simp only [AZ,hc,Option.map_some]
theorem vH {parts:Array (Nat × Operand)} {ps:List (Nat × SV)} (hp:(parts.toList.map fun p=>(p.1,S.ev p.2))=ps) {places:List (Nat × Nat)} {zs cc:List SV} (h1:FM P t=some places) (h2:D6 P t=some zs) (h3:F5 (fun i=>places[i]?) zs ps=some cc) (h4:N8 cc=r) :
  AZ P S (.build t parts)=some (.val r):=by simp only [AZ,hp,Ro,h1,h2,h3,Option.map_some,h4]
theorem Gt {parts:Array (Nat × Operand)} {ps:List (Nat × SV)} (hp:(parts.toList.map fun p=>(p.1,S.ev p.2))=ps) {zs cc:List SV} (he:D8 P t=some e) (hz:D6 P e=some zs) (hs:FC P e=some sz)
  (h1:zs.length=sz) (h2:len * sz <= 16777216) (h3:len <= 16777216) (hf:F5 (fun i=>some (i * sz,sz)) (List.replicate len zs).flatten ps=some cc):AZ P S (.buildSlice t len parts)=some (.mk ⟨cc,sz,e,0,true⟩ len):=by
 simp only [AZ,hp,Hy,he,hz,hs,h1,h2,h3,and_self,if_true,hf,Option.map_some]
theorem pq {zs:List SV} (hx:S.ev x=.dv (.int .i64 n)) (hy:S.ev y=.dv (.int .i64 n)) (he:D8 P t=some e) (hz:D6 P e=some zs) (hs:FC P e=some sz) (hb:Fx P e=some by')
  (h0:0 <= n) (h1:by' * n <= 281474976710656) (h2:n <= 9223372036854775807) (h3:zs.length=sz):AZ P S (.makeSlice t x y)=some (.mk ⟨(List.replicate n.toNat zs).flatten,sz,e,0,true⟩ n.toNat):=by
 simp only [AZ,hx,hy,Rc,he,hz,hs,hb]
 rw [if_pos ⟨h0,Int.le_refl _,h1,h2,h3⟩]
theorem Xg {cc:List SV} (hx:S.look x=(.pt tg g o,some blk)) (hs:FC P t=some sz) (hv:Cn (S.ev y)=some cc) (h1:cc.length=sz) (h2:cc.all Du=true) (h3:o+cc.length <= blk.cells.length) {cells:List SV} (hc:putCells blk.cells o cc=cells) :
  AZ P S (.store t x y)=some (.put tg { blk with cells:=cells }):=by
 simp only [AZ,hx,O7,hs,hv]
 rw [if_pos ⟨h1,h2,h3⟩,hc]
theorem Tp {m':Nat} {news zs:List SV} {tx ex:TypeId} (hs:S.look x=(.Bw,ob)) (hx:Ev sz (S.look y)=some (m',news)) (he:D8 P t=some e) (hex:D8 P tx=some ex) (hz:D6 P e=some zs) (hsz:FC P e=some sz) (hb:Fx P e=some by')
  (h1:m' <= 9223372036854775807) (h2:m' * by' <= 140737488355328) (h3:zs.length=sz):AZ P S (.call { callee:=.builtin .append,args:=#[x,y],argTypes:=#[t,tx] })=some (.app none ⟨news,sz,e,0,true⟩ m'):=by
 simp only [AZ,Hw,Ee,KG,he,hex,hsz,hb,hz,hx,hs]
 rw [if_pos ⟨h1,h2,h3⟩]
theorem Tn {m':Nat} {news zs:List SV} {tx ex:TypeId} (hs:S.look x=(.sl tg g 0 len,some blk)) (hx:Ev sz (S.look y)=some (m',news)) (he:D8 P t=some e) (hex:D8 P tx=some ex) (hz:D6 P e=some zs) (hsz:FC P e=some sz) (hb:Fx P e=some by')
  (hr:blk.row=true) (hes:blk.CS=sz) (hel:blk.elem=e) (hln:blk.cells.length=len * sz) (h1:len+m' <= 9223372036854775807) (h2:(len+m') * by' <= 140737488355328) (h3:zs.length=sz) {cells:List SV} (hc:blk.cells ++ news=cells) :
  AZ P S (.call { callee:=.builtin .append,args:=#[x,y],argTypes:=#[t,tx] })=some (.app (some tg) { blk with cells:=cells,st:=0 } (len+m')):=by
 simp only [AZ,Hw,Ee,KG,he,hex,hsz,hb,hz,hx,hs]
 rw [if_pos ⟨hr,hes,hel,hln,h1,h2,h3⟩,hc]
theorem eH {α:Type} {F:α -> DV} {L:List α} {M:Nat -> Nat × Option BG} (hF:∀ q,(F q).cells=[F q]) (hok:∀ q,Du (.dv (F q))=true):Ev 1 (.dv (.list (L.map F)),ob)=some (L.length,L.map fun q=>.dv (F q)):=by
 have h1:(L.map F).all (fun d=>d.cells.length == 1 && d.cells.all fun c=>Du (.dv c))=true:=by
  rw [List.all_eq_true]
  intro d hd
  obtain ⟨q,_,rfl⟩:=List.mem_map.1 hd
  simp [hF,hok]
 have h2:flat (L.map F)=L.map F:=by
  unfold flat
  induction L with
  | nil=>rfl
  | cons q L ih=>simp only [List.map_cons,List.flatMap_cons,hF,List.cons_append,List.nil_append];rw [ih];rw [List.map_cons,List.all_cons,Bool.and_eq_true] at h1;exact h1.2
 simp only [Ev,h1,if_true,List.length_map,h2,List.map_map]
 rfl
theorem Iy {L:List Int}:Ev 1 (.dv (.list (L.map (DV.int k))),ob)=some (L.length,L.map fun q=>.dv (.int k q)):=eH (M:=fun _=>(0,none)) (fun _=>rfl) (fun _=>rfl)
theorem putCells_set {α β:Type} (F:α -> β) (L:List α) (i:Nat) (v:α) (hi:i < L.length):putCells (L.map F) i [F v]=(L.set i v).map F:=by
 unfold putCells
 rw [List.set_eq_take_append_cons_drop,if_pos hi]
 simp [List.map_take,List.map_drop]
end
end Go.Ab
set_option linter.unusedVariables false
namespace Go.Ab
open Go.RowKit
section
variable {cx:Cx} {P:Program} {N:Nat} {ops:Array Oper} {rest:List Oper} {K:St -> Prop} {KD:List It -> St -> Prop} {its:List It} {d f:Nat} {args:Array Operand} {ts:Array TypeId} {ty:TypeId} {p:String} {af:Array Edge} {S S':St} {ds:List DV} {res:Rv} {R:List Nat}
 {ss:List SV}
variable {gd:Option (Nat × Bool)}
theorem vo (hP:cx.P=P) (hn:cx.n=N) (hd:d < N) (hgd:Ho ops S gd) (hc:AR P f ds res) (hs:args.toList.map S.ev=ss) (ha:Cm (GQ S.M) ss ds) (hS:(CU d S res).app S=S') (k:Chain cx ops rest S' K) :
  Chain cx ops (⟨some d,.call { callee:=.value (.func f),args:=args,argTypes:=ts },ty,p,af,gd⟩ :: rest) S K :=
 Nj hP hn hd hgd (pre:=[]) (caps:=[]) rfl (.inl ⟨by rw [hs];exact ha,by simpa using hc⟩) hS k
theorem vv (hP:cx.P=P) (hn:cx.n=N) (hd:d < N) (hgd:Ho ops S gd) (hc:GR P f ds res) (hs:args.toList.map S.ev=ss) (ha:Cm (EC S.M) ss ds) (hS:(CU d S res).app S=S') (k:Chain cx ops rest S' K) :
  Chain cx ops (⟨some d,.call { callee:=.value (.func f),args:=args,argTypes:=ts },ty,p,af,gd⟩ :: rest) S K :=
 Nj hP hn hd hgd (pre:=[]) (caps:=[]) rfl (.inr ⟨by rw [hs];exact ha,by simpa using hc⟩) hS k
theorem qO {pre caps:List DV} {v:Nat} (hP:cx.P=P) (hn:cx.n=N) (hd:d < N) (hgd:Ho ops S gd) (hf:S.F v=.dv (.fn f pre caps)) (hc:AR P f (pre ++ ds ++ caps) res) (hs:args.toList.map S.ev=ss) (ha:Cm (GQ S.M) ss ds) (hS:(CU d S res).app S=S') (k:Chain cx ops rest S' K) :
  Chain cx ops (⟨some d,.call { callee:=.value (.tmp v),args:=args,argTypes:=ts },ty,p,af,gd⟩ :: rest) S K :=
 Nj hP hn hd hgd hf (.inl ⟨by rw [hs];exact ha,hc⟩) hS k
theorem vO (hP:cx.P=P) (hn:cx.n=N) (hd:d < N) (hgd:Ho ops S gd) (hc:AR P f ds res) (hs:args.toList.map S.ev=ss) (ha:Cm (GQ (L8 R S.M)) ss ds) (hS:(CU d S res).app S=S') (k:Bz cx ops rest (⟨R ++ JQ d res,CU d S res⟩ :: its) S' KD) :
  Bz cx ops (⟨some d,.call { callee:=.value (.func f),args:=args,argTypes:=ts },ty,p,af,gd⟩ :: rest) its S KD :=
 qH hP hn hd hgd (pre:=[]) (caps:=[]) rfl (.inl ⟨by rw [hs];exact ha,by simpa using hc⟩) hS k
theorem vP (hP:cx.P=P) (hn:cx.n=N) (hd:d < N) (hgd:Ho ops S gd) (hc:GR P f ds res) (hs:args.toList.map S.ev=ss) (ha:Cm (EC (L8 R S.M)) ss ds) (hS:(CU d S res).app S=S') (k:Bz cx ops rest (⟨R ++ JQ d res,CU d S res⟩ :: its) S' KD) :
  Bz cx ops (⟨some d,.call { callee:=.value (.func f),args:=args,argTypes:=ts },ty,p,af,gd⟩ :: rest) its S KD :=
 qH hP hn hd hgd (pre:=[]) (caps:=[]) rfl (.inr ⟨by rw [hs];exact ha,by simpa using hc⟩) hS k
end
section
variable {l:List (Nat × SV)} {m:List (Nat × Nat × Option BG)} {d g:Nat}
theorem OO {x:DV}:(CU d ⟨lk l,AA m⟩ (.one (.dv x))).app ⟨lk l,AA m⟩=⟨lk ((d,.dv x) :: l),AA m⟩:=by
 simp [CU,Eff.app,ER,DN,OP,IG,Dl,FB]
theorem KQ {CS n:Nat} {elem:TypeId} {cs:List DV} (hg:(AA m d).1=g):(CU d ⟨lk l,AA m⟩ (.one (.row CS elem n cs))).app ⟨lk l,AA m⟩=⟨lk ((d,.sl d (g+1) 0 n) :: l),AA ((d,g+1,some ⟨cs.map .dv,CS,elem,0,true⟩) :: m)⟩:=by
 subst hg
 simp [CU,Eff.app,ER,DN,OP,IG,Dl,FB,Ej]
theorem eY {x y:DV} {xs:List DV}:(CU d ⟨lk l,AA m⟩ (.many (.dv x :: .dv y :: xs.map .dv))).app ⟨lk l,AA m⟩=⟨lk ((d,.FR (.dv x :: .dv y :: xs.map .dv)) :: l),AA m⟩:=by
 have h1:∀ (xs:List DV) (j:Nat) (M:Nat -> Nat × Option BG),DN d j (xs.map .dv) M=(xs.map .dv,M):=by
  intro xs
  induction xs with
  | nil=>intro j M;rfl
  | cons x xs ih=>intro j M;simp [DN,ih]
 have h2:∀ (xs:List DV) (j:Nat) (M:Nat -> Nat × Option BG),IG d j (xs.map .dv) M=[]:=by
  intro xs
  induction xs with
  | nil=>intro j M;rfl
  | cons x xs ih=>intro j M;simp [IG,ih]
 simp [CU,Eff.app,ER,DN,OP,IG,Dl,FB,h1,h2]
theorem OI {x y:DV}:(CU d ⟨lk l,AA m⟩ (.many [.dv x,.dv y])).app ⟨lk l,AA m⟩=⟨lk ((d,.FR [.dv x,.dv y]) :: l),AA m⟩:=eY (xs:=[])
theorem Jw {x y z:DV}:(CU d ⟨lk l,AA m⟩ (.many [.dv x,.dv y,.dv z])).app ⟨lk l,AA m⟩=⟨lk ((d,.FR [.dv x,.dv y,.dv z]) :: l),AA m⟩:=eY (xs:=[z])
theorem HZ {CS n:Nat} {elem:TypeId} {cs:List DV} {x:DV} (hg:(AA m d).1=g):(CU d ⟨lk l,AA m⟩ (.many [.row CS elem n cs,.dv x])).app ⟨lk l,AA m⟩=⟨lk ((d,.FR [.sl d (g+1) 0 n,.dv x]) :: l),AA ((d,g+1,some ⟨cs.map .dv,CS,elem,0,true⟩) :: m)⟩:=by
 subst hg
 simp [CU,Eff.app,ER,DN,OP,IG,Dl,FB,Ej]
theorem GU {CS n:Nat} {elem:TypeId} {cs:List DV} {x y:DV} (hg:(AA m d).1=g):(CU d ⟨lk l,AA m⟩ (.many [.row CS elem n cs,.dv x,.dv y])).app ⟨lk l,AA m⟩=⟨lk ((d,.FR [.sl d (g+1) 0 n,.dv x,.dv y]) :: l),AA ((d,g+1,some ⟨cs.map .dv,CS,elem,0,true⟩) :: m)⟩:=by
 subst hg
 simp [CU,Eff.app,ER,DN,OP,IG,Dl,FB,Ej]
end
section
variable {ok:Nat -> Prop} {Db:DV -> Prop} {M:Nat -> Nat × Option BG}
theorem EH:Cm (Data ok Db M) [] []:=trivial
theorem CG {s:SV} {d:DV} {ss:List SV} {ds:List DV} (h:Data ok Db M s d) (k:Cm (Data ok Db M) ss ds):Cm (Data ok Db M) (s :: ss) (d :: ds):=⟨h,k⟩
theorem Bh {d:DV}:Data ok (fun _=>True) M (.dv d) d:=.dv d trivial
theorem Ot {t g n:Nat} {blk:BG} {l:List DV} (hM:M t=(g,some blk)) (hst:ok blk.st) (hl:l.length=n) (he:∀ d ∈ l,d.cells.length=blk.CS) (hc:blk.cells=(flat l).map .dv) (hd:∀ c ∈ flat l,Db c):Data ok Db M (.sl t g 0 n) (.list l):=by
 refine .sl t g 0 n blk l (fun j=>.dv ((flat l).getD j default)) hM hst hl he (fun j c hj=>?_) fun j c hj=>?_
 ·simp [hc,hj]
 ·have:(flat l).getD j default=c:=by simp [hj]
  rw [this]
  exact .dv c (hd c (List.mem_of_getElem? hj))
theorem II {α:Type} {F:α -> DV} {L:List α} (hF:∀ q,(F q).cells=[F q]):flat (L.map F)=L.map F:=by
 unfold flat
 induction L with
 | nil=>rfl
 | cons q L ih=>simp only [List.map_cons,List.flatMap_cons,hF,List.cons_append,List.nil_append];rw [ih]
theorem BS {t g n:Nat} {blk:BG} {k:IntKind} {L:List Int} (hM:M t=(g,some blk)) (hst:ok blk.st) (hl:L.length=n) (he:blk.CS=1) (hc:blk.cells=L.map fun q=>.dv (.int k q)) (hd:∀ q,Db (.int k q)):Data ok Db M (.sl t g 0 n) (.list (L.map (DV.int k))):=by
 have hf:flat (L.map (DV.int k))=L.map (DV.int k):=II fun _=>rfl
 refine Ot hM hst (by simpa using hl) (fun d hd'=>?_) ?_ fun c hc'=>?_
 ·obtain ⟨q,_,rfl⟩:=List.mem_map.1 hd';rw [he];rfl
 ·rw [hf,hc,List.map_map];rfl
 ·rw [hf] at hc';obtain ⟨q,_,rfl⟩:=List.mem_map.1 hc';exact hd q
end
theorem E8 {Db:DV -> Prop} {M:Nat -> Nat × Option BG} {s:SV} {d:DV} (h:Data (fun _=>True) Db M s d):Eb Db M s (.dv d):=h
theorem aj {Db:DV -> Prop} {M:Nat -> Nat × Option BG} {t g n:Nat} {k:IntKind} {elem:TypeId} {L:List Int} (hM:M t=(g,some ⟨L.map fun q=>.dv (.int k q),1,elem,0,true⟩)) (hl:L.length=n):Eb Db M (.sl t g 0 n) (.row 1 elem n (L.map (DV.int k))):=by
 refine .inr ⟨t,g,rfl,?_,by simp [hl],fun c hc=>?_⟩
 ·rw [hM,List.map_map];rfl
 ·obtain ⟨q,_,rfl⟩:=List.mem_map.1 hc;exact .int _ _
theorem Vm {Db:DV -> Prop} {M:Nat -> Nat × Option BG} {CS:Nat} {elem:TypeId}:Eb Db M .Bw (.row CS elem 0 []):=.inl ⟨rfl,rfl,rfl⟩
theorem gX {P:Program} {Db:DV -> Prop} {S:St} {e:Exit} {t:Nat} {s:SV} {r:R1} (he:e=.normal \/ e=.ret) (hs:S.F t=s) (hr:Eb Db S.M s r) (ha:(∃ d,r=.dv d) \/ ∀ d,r=.dv d -> Scalar d):RO P Db [.tmp t] (.one r) e S:=by
 refine ⟨he,[s],[r],by simp [Dh,hs],⟨hr,trivial⟩,?_,rfl⟩
 rcases ha with ⟨d,rfl⟩ | ha
 ·exact .inl fun r hr=>⟨d,by simpa using hr⟩
 ·refine .inr ⟨fun r' hr' d hd=>?_,?_⟩
  ·simp only [List.mem_singleton] at hr';subst hr';exact ha d hd
  ·cases s<;>cases r<;>simp [En]
theorem BK {τ:Nat -> Option Nat} {M M':Nat -> Nat × Option BG} {k:IntKind}:∀ {L L':List Int},Ae τ M M' (L.map fun q=>.dv (.int k q)) (L'.map fun q=>.dv (.int k q)) ↔ L=L'
 | [],[]=>by simp [Ae]
 | [],_ :: _=>by simp [Ae]
 | _ :: _,[]=>by simp [Ae]
 | a :: L,b :: L'=>by
  simp only [List.map_cons,Ae,Aa,DV.int.injEq,true_and,BK,List.cons.injEq]
theorem QA {k:IntKind} {L:List Int} {v:Int}:(L.map fun q=>SV.dv (.int k q)) ++ [SV.dv (.int k v)]=(L ++ [v]).map fun q=>.dv (.int k q):=by simp
theorem TN {k:IntKind} {L L':List Int}:(L.map fun q=>SV.dv (.int k q)) ++ (L'.map fun q=>SV.dv (.int k q))=(L ++ L').map fun q=>.dv (.int k q):=by simp
abbrev OG (k:IntKind) (e:TypeId) (L:List Int):BG:=⟨L.map fun q=>.dv (.int k q),1,e,0,true⟩
abbrev rK (k:IntKind) (e:TypeId) (L:List Int):R1:=.row 1 e L.length (L.map (DV.int k))
section
variable {l:List (Nat × SV)} {m:List (Nat × Nat × Option BG)} {d g:Nat} {k:IntKind} {e:TypeId} {L:List Int}
theorem Wz:(⟨(L.map (DV.int k)).map .dv,1,e,0,true⟩:BG)=OG k e L:=by simp
theorem OM (hg:(AA m d).1=g):(CU d ⟨lk l,AA m⟩ (.one (rK k e L))).app ⟨lk l,AA m⟩=⟨lk ((d,.sl d (g+1) 0 L.length) :: l),AA ((d,g+1,some (OG k e L)) :: m)⟩:=by
 rw [KQ hg,Wz]
theorem OL {x:DV} (hg:(AA m d).1=g):(CU d ⟨lk l,AA m⟩ (.many [rK k e L,.dv x])).app ⟨lk l,AA m⟩=⟨lk ((d,.FR [.sl d (g+1) 0 L.length,.dv x]) :: l),AA ((d,g+1,some (OG k e L)) :: m)⟩:=by
 rw [HZ hg,Wz]
theorem OJ {x y:DV} (hg:(AA m d).1=g):(CU d ⟨lk l,AA m⟩ (.many [rK k e L,.dv x,.dv y])).app ⟨lk l,AA m⟩=⟨lk ((d,.FR [.sl d (g+1) 0 L.length,.dv x,.dv y]) :: l),AA ((d,g+1,some (OG k e L)) :: m)⟩:=by
 rw [GU hg,Wz]
end
theorem Sc {Db:DV -> Prop} {M:Nat -> Nat × Option BG} {t g n:Nat} {k:IntKind} {e:TypeId} {L:List Int} (hM:M t=(g,some (OG k e L))) (hl:n=L.length):Eb Db M (.sl t g 0 n) (rK k e L):=by
 subst hl;exact aj hM rfl
theorem Vl {Db:DV -> Prop} {M:Nat -> Nat × Option BG} {k:IntKind} {e:TypeId}:Eb Db M .Bw (rK k e []):=Vm
theorem Tm {P:Program} {Db:DV -> Prop} {S:St} {x:Exit} {t:Nat} {s1:SV} {k:IntKind} {e:TypeId} {L:List Int} (he:x=.normal \/ x=.ret) (hs:S.F t=s1) (h1:Eb Db S.M s1 (rK k e L)):RO P Db [.tmp t] (.one (rK k e L)) x S :=
 gX he hs h1 (.inr fun d hd=>by cases hd)
def Af:List SV -> Bool
 | []=>true
 | .dv _ :: l=>Af l
 | _ :: _=>false
theorem ES:∀ {l:List SV},Af l=true ↔ ∀ c ∈ l,∃ d,c=.dv d
 | []=>by simp [Af]
 | .dv d :: l=>by simp [Af,ES (l:=l)]
 | .dead :: l | .Bw :: l | .emp _ :: l | .sl .. :: l | .pt .. :: l | .agg _ :: l | .FR _ :: l=>by simp [Af]
theorem BI {α:Type} {F:α -> DV} {L:List α}:Af (L.map fun q=>.dv (F q))=true:=by simp [ES]
theorem BL {a b:List SV}:Af (a ++ b)=(Af a && Af b):=by
 rw [Bool.eq_iff_iff,Bool.and_eq_true,ES,ES,ES]
 simp only [List.mem_append,or_imp,forall_and]
theorem BO {a:List SV} {n:Nat} (h:Af a=true):Af (a.take n)=true:=ES.2 fun c hc=>ES.1 h c (List.mem_of_mem_take hc)
theorem BM {a:List SV} {n:Nat} {d:DV} (h:Af a=true):Af (a.set n (.dv d))=true:=ES.2 fun c hc=>by
 rcases List.mem_or_eq_of_mem_set hc with h1 | h1
 ·exact ES.1 h c h1
 ·exact ⟨d,h1⟩
theorem BN {n:Nat} {d:DV}:Af (List.replicate n (.dv d))=true:=ES.2 fun c hc=>⟨d,List.eq_of_mem_replicate hc⟩
theorem BJ {τ:Nat -> Option Nat} {M M':Nat -> Nat × Option BG}:∀ {cs:List SV},Af cs=true -> Ae τ M M' cs cs
 | [],_=>by simp [Ae]
 | .dv d :: cs,h=>by simp only [Ae,Aa,true_and];exact BJ (by simpa only [Af] using h)
 | .dead :: l,h | .Bw :: l,h | .emp _ :: l,h | .sl .. :: l,h | .pt .. :: l,h | .agg _ :: l,h | .FR _ :: l,h=>by simp [Af] at h
end Go.Ab
