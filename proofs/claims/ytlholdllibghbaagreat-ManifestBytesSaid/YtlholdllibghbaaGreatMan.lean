/- Manifests in memory: their cells, how an argument is opened, a variable that holds one, what is loaded from it, stored into it. No condition. -/
import Derived.Test.YtlholdllibghbaaGreatG02
import Derived.Test.YtlholdllibghbaaGreatG08
import Derived.Test.YtlholdllibghbaaGreatG10
import Derived.Test.YtlholdllibghbaaGreatG07
import Derived.Test.YtlholdllibghbaaGreatG11
import Derived.Test.YtlholdllibghbaaGreatParse1
import Derived.Laws.CopyRow
import Derived.Test.YtlholdllibghbaaGreatKit
namespace Go.Cit
open Go Go.RowKit
def lZ (C:Array Value) (o:Nat) (D:List Value):Array Value:=(C.toList.take o++D++C.toList.drop (o+D.length)).toArray
theorem yJ {X Y Z D:List Value} (h:D.length=Y.length):lZ (X++(Y++Z)).toArray X.length D=(X++(D++Z)).toArray:=by
 unfold lZ
 congr 1
 rw[List.toList_toArray,List.take_left,List.append_assoc,h]
 congr 2
 rw[←List.append_assoc,←List.length_append,List.drop_left]
section
variable {P:Program} {ops:Array Oper} {rest:List Oper} {o:Oper} {act:Act} {w w':World} {Q:Exit→Act→World→Prop}
theorem Gt {T E:TypeId} {b k n:Nat} {C D:Array Value} (hi:(P.info? T).map (·.size)=some n) (x y:Operand) {ρ:Operand→Value} (ho:o.op= .store T x y) (hx:ρ x= .pointer (some ⟨b,k,none⟩)) (hy:ρ y= .agg D) (hn:D.size=n) (hb:w.heap[b]? =some (.cells C E (0,0)))
 (hl:k+n≤C.size) (h1:D.all (·.oneCell')=true):(execOp ρ o).run P w= .ok .skip (w.setRow b (lZ C k D.toList)):=by
 have hs:=run_storeCells_at (P:=P) b k E D.toList 0 C w hb (by simp;omega) (fun v hv=>(Array.all_eq_true_iff_forall_mem.1 h1) v (by simpa using hv))
 simp only[Nat.add_zero] at hs
 unfold execOp
 simp only[ho,hx,hy,Instr.storeAt,Instr.sureAddr,Sem.run_bind,Sem.run_pure,Result.andThen_ok]
 have:(storeVar T ⟨b,k,none⟩ (.agg D)).run P w= .ok () (w.setRow b (lZ C k D.toList)):=by
  cases hq:P.info? T with
  | none=>simp[hq] at hi
  |
   some i=>
   have h2:D.size=i.size:=by simp[hq] at hi;omega
   simp[storeVar,sizeOf,typeInfo,hq,Value.cells,h2,hs,lZ]
 rw[this]
 rfl
theorem dO {T E:TypeId} {b k n:Nat} {C D:Array Value} (hi:(P.info? T).map (·.size)=some n) (x y:Operand) (hgd:o.guard=none) (ho:o.op= .store T x y) (hd:o.dst=none) (hx:act.eval x= .pointer (some ⟨b,k,none⟩)) (hy:act.eval y= .agg D) (hn:D.size=n)
 (hb:w.heap[b]? =some (.cells C E (0,0))) (hl:k+n≤C.size) (h1:D.all (·.oneCell')=true)
 (h:∀w',w'.heap[b]? =some (.cells (lZ C k D.toList) E (0,0))→Save (· ≠b) w w'→wpList P ops Q rest act w'):wpList P ops Q (o::rest) act w:=by
 refine wpList_skip (w':=w.setRow b (lZ C k D.toList)) hgd (Gt hi x y ho hx hy hn hb hl h1) ?_
 rw[hd];exact h _ (lC hb) (lG _ _ _)
end
structure aV where
 ver:I64
 prev:List UInt8
 trial:I64
 cfg:aO
 tag:List UInt8
structure oZ where
 ver:I64
 prev:List UInt8
 trial:I64
 cfg:Bq
 tag:List UInt8
def aV.man (M:aV):oZ:=⟨M.ver,M.prev,M.trial,M.cfg.cfg,M.tag⟩
def aV.cs (M:aV):List Value:=[.int .i64 M.ver.1]++(M.prev.map vb++([.int .i64 M.trial.1]++(uX M.cfg++M.tag.map vb)))
def cM (M:aV):Array Value:=M.cs.toArray
structure aV.At (w:World) (M:aV):Prop where
 p32:M.prev.length=32
 t32:M.tag.length=32
 cfg:M.cfg.At w
theorem aV.At.stay {w w':World} {M:aV} (h:M.At w) (hb:Below w.heap.size w w'):M.At w':=⟨h.p32,h.t32,h.cfg.stay hb⟩
theorem fM {M:aV} (hp:M.prev.length=32) (ht:M.tag.length=32):(cM M).size=69:=by simp[cM,aV.cs,hp,ht]
theorem fP (M:aV):(cM M).all (·.oneCell')=true:=by simp[cM,aV.cs,uX,vb,Value.oneCell']
def vP:Sh false:= .st (.cons .i64 (.cons (.arr 32 .u8) (.cons .i64 (.cons uQ (.cons (.arr 32 .u8) .nil)))))
def J8 (d:vP.D):aV:=⟨wH d.1,d.2.1,wH d.2.2.1,Fh d.2.2.2.1,d.2.2.2.2.1⟩
theorem JM (t:List UInt8):List.flatMap (Sh.enc .u8) t=t.map vb:=by
 induction t with
 | nil=>rfl
 | cons y t ih=>rw[List.flatMap_cons,ih];rfl
theorem NZ {w:World} {d:vP.D} (h:vP.ok w d):vP.enc d=(J8 d).cs:=by
 obtain⟨x,p,y,c,t,⟨⟩⟩:=d
 obtain⟨h1,_,h3,_⟩:=h
 show [Value.int .i64 x]++(List.flatMap (Sh.enc .u8) p++([Value.int .i64 y]++(uQ.enc c++(List.flatMap (Sh.enc .u8) t++ []))))=[.int .i64 (wH x).1]++(p.map vb++([.int .i64 (wH y).1]++(uX (Fh c)++t.map vb)))
 rw[JM,JM,OC,List.append_nil,jq h1,jq h3]
theorem Oi {w:World} {d:vP.D} (h:vP.ok w d):(J8 d).At w:=by
 obtain⟨x,p,y,c,t,⟨⟩⟩:=d
 obtain⟨_,h2,_,h4,h5,_⟩:=h
 exact⟨h2.1,h5.1,Oj h4⟩
end Go.Cit
namespace Go.Proofs.YtlholdllibghbaaGreat
open Go Go.RowKit Go.Cit
theorem iw:fO Tryz.prog 55 69:=⟨⟨_,Tryz.underlying55,rfl⟩,by kernel_rfl⟩
theorem QL:fO Tryz.prog 26 3:=⟨⟨_,Tryz.underlying26,rfl⟩,by kernel_rfl⟩
theorem SI (b:Nat) (W:World):(Instr.fieldAt 55 (.pointer (some ⟨b,0,none⟩)) 0).run Tryz.prog W= .ok (.pointer (some ⟨b,0,none⟩)) W:=by kernel_rfl
theorem mf1 (b:Nat) (W:World):(Instr.fieldAt 55 (.pointer (some ⟨b,0,none⟩)) 1).run Tryz.prog W= .ok (.pointer (some ⟨b,1,none⟩)) W:=by kernel_rfl
theorem mf2 (b:Nat) (W:World):(Instr.fieldAt 55 (.pointer (some ⟨b,0,none⟩)) 2).run Tryz.prog W= .ok (.pointer (some ⟨b,33,none⟩)) W:=by kernel_rfl
theorem OQ (b:Nat) (W:World):(Instr.fieldAt 55 (.pointer (some ⟨b,0,none⟩)) 3).run Tryz.prog W= .ok (.pointer (some ⟨b,34,none⟩)) W:=by kernel_rfl
theorem Uy (b:Nat) (W:World):(Instr.fieldAt 55 (.pointer (some ⟨b,0,none⟩)) 4).run Tryz.prog W= .ok (.pointer (some ⟨b,37,none⟩)) W:=by kernel_rfl
structure eY (w:World) (g:Nat) (M:aV):Prop where
 blk:w.heap[g]? =some (.cells (cM M) 55 (0,0))
 p32:M.prev.length=32
 t32:M.tag.length=32
section
variable {w w':World} {g:Nat} {M:aV}
theorem eY.new (w:World) (h:M.At w):eY (w.alloc (.cells (cM M) 55)) w.heap.size M:=⟨heap_alloc_new _ _,h.p32,h.t32⟩
theorem eY.lt (h:eY w g M):g<w.heap.size:=(Array.getElem?_eq_some_iff.1 h.blk).1
theorem eY.keep (h:eY w g M) (hb:Below w.heap.size w w'):eY w' g M:=⟨aG h.blk hb,h.p32,h.t32⟩
theorem eY.save {S:Nat→Prop} (h:eY w g M) (hs:Save S w w') (hg:S g):eY w' g M:=⟨(hs.block g h.lt hg).trans h.blk,h.p32,h.t32⟩
theorem eY.size (h:eY w g M):(cM M).size=69:=fM h.p32 h.t32
theorem eY.cell (h:eY w g M) (k:Nat):w.cell? ⟨g,k,none⟩=M.cs[k]? :=by rw[World.cell?,h.blk];exact(by simp[cM]:(cM M)[k]? =M.cs[k]?)
theorem eY.ver (h:eY w g M):w.cell? ⟨g,0,none⟩=some (.int .i64 M.ver.1):=by rw[h.cell];rfl
theorem eY.trial (h:eY w g M):w.cell? ⟨g,33,none⟩=some (.int .i64 M.trial.1):=by
 rw[h.cell,aV.cs,List.getElem?_append_right AO,List.getElem?_append_right (by simp[h.p32])]
 simp[h.p32]
theorem eY.cfgs (h:eY w g M) (j:Nat) (hj:j<3):w.cell? ⟨g,34+j,none⟩=(uX M.cfg)[j]? :=by
 rw[h.cell,aV.cs,List.getElem?_append_right (by simp;omega),List.getElem?_append_right (by simp[h.p32];omega),List.getElem?_append_right (by simp[h.p32];omega),List.getElem?_append_left (by simp[h.p32];omega)]
 simp only[List.length_map,h.p32,List.length_singleton]
 rw[show 34+j-1-32-1=j by omega]
theorem eY.Ph (h:eY w g M):(Instr.loadAt 26 (.pointer (some ⟨g,34,none⟩))).run Tryz.prog w= .ok (.agg #[.slice M.cfg.wa M.cfg.ws.length M.cfg.wc, .slice M.cfg.pa M.cfg.ps.length M.cfg.pc, .slice M.cfg.ca M.cfg.cs.length M.cfg.cc]) w:=by
 refine run_loadAt_mid w g 34 26 (uX M.cfg) _ (fun j v hv=> ?_) Tryz.underlying26 rfl AB
 have hj:j<3:=by simpa using (List.getElem?_eq_some_iff.1 hv).1
 rw[h.cfgs j hj];exact hv
theorem eY.prev (h:eY w g M):(Instr.loadAt 53 (.pointer (some ⟨g,1,none⟩))).run Tryz.prog w= .ok (.agg (M.prev.map vb).toArray) w:=by
 refine uT w g 1 M.prev h.p32 fun k hk=> ?_
 rw[h.cell,aV.cs,List.getElem?_append_right AO,List.getElem?_append_left (by simp;omega)]
 simp[hk]
theorem eY.tag (h:eY w g M):(Instr.loadAt 53 (.pointer (some ⟨g,37,none⟩))).run Tryz.prog w= .ok (.agg (M.tag.map vb).toArray) w:=by
 refine uT w g 37 M.tag h.t32 fun k hk=> ?_
 rw[h.cell,aV.cs,List.getElem?_append_right (by simp;omega),List.getElem?_append_right (by simp[h.p32];omega),List.getElem?_append_right (by simp[h.p32];omega),List.getElem?_append_right (by simp[h.p32];omega)]
 simp only[List.length_map,h.p32,List.length_singleton,List.length_cons,List.length_nil]
 rw[show 37+k-1-32-1-(0+1+1+1)=k by omega]
 simp[hk]
theorem eY.whole (h:eY w g M):(Instr.loadAt 55 (.pointer (some ⟨g,0,none⟩))).run Tryz.prog w= .ok (.agg (cM M)) w:=by
 refine run_loadAt_mid w g 0 55 M.cs _ (fun j v hv=> ?_) Tryz.underlying55 rfl ?_
 ·rw[Nat.zero_add,h.cell];exact hv
 ·rw[show M.cs.length=69 from by have:=h.size;simpa[cM] using this];kernel_rfl
theorem vY (hp:M.prev.length=32) {t:List UInt8} (ht:t.length=32):lZ (cM M) 1 (t.map vb)=cM {M with prev:=t}:=by
 have:=yJ (X:=[Value.int .i64 M.ver.1]) (Y:=M.prev.map vb) (Z:=[.int .i64 M.trial.1]++(uX M.cfg++M.tag.map vb)) (D:=t.map vb) (by simp[hp,ht])
 exact this
theorem EX (hp:M.prev.length=32) (ht:M.tag.length=32) {t:List UInt8} (h:t.length=32):lZ (cM M) 37 (t.map vb)=cM {M with tag:=t}:=by
 have:=yJ (X:=[Value.int .i64 M.ver.1]++(M.prev.map vb++([.int .i64 M.trial.1]++uX M.cfg))) (Y:=M.tag.map vb) (Z:=[]) (D:=t.map vb) (by simp[ht,h])
 simp only[List.append_nil,List.append_assoc] at this
 have hl:([Value.int .i64 M.ver.1]++(M.prev.map vb++([.int .i64 M.trial.1]++uX M.cfg)):List Value).length=37:=by simp[hp]
 rw[hl] at this
 exact this
theorem yL (hp:M.prev.length=32) (U:aO):lZ (cM M) 34 (uX U)=cM {M with cfg:=U}:=by
 have:=yJ (X:=[Value.int .i64 M.ver.1]++(M.prev.map vb++ [.int .i64 M.trial.1])) (Y:=uX M.cfg) (Z:=M.tag.map vb) (D:=uX U) AO
 simp only[List.append_assoc] at this
 have hl:([Value.int .i64 M.ver.1]++(M.prev.map vb++ [.int .i64 M.trial.1]):List Value).length=34:=by simp[hp]
 rw[hl] at this
 exact this
theorem LK (hp:M.prev.length=32) (n:I64):lZ (cM M) 33 [.int .i64 n.1]=cM {M with trial:=n}:=by
 have:=yJ (X:=[Value.int .i64 M.ver.1]++M.prev.map vb) (Y:=[.int .i64 M.trial.1]) (Z:=uX M.cfg++M.tag.map vb) (D:=[.int .i64 n.1]) AO
 simp only[List.append_assoc] at this
 have hl:([Value.int .i64 M.ver.1]++M.prev.map vb:List Value).length=33:=by simp[hp]
 rw[hl] at this
 exact this
theorem O7 {C:Array Value} {k:Nat} (v:Value) (hk:k<C.size):C.setIfInBounds k v=lZ C k [v]:=by
 apply Array.ext'
 unfold lZ
 rw[Array.toList_setIfInBounds,List.toList_toArray,List.set_eq_take_append_cons_drop,if_pos (by simpa using hk)]
 simp
theorem eY.Aa (h:eY w g M) (n:I64):eY (w.setCell ⟨g,33,none⟩ (.int .i64 n.1)) g {M with trial:=n}:=by
 refine⟨?_,h.p32,h.t32⟩
 rw[←LK h.p32 n,←O7 _ (by rw[h.size];decide)]
 simp[World.setCell,Array.getElem?_modify,h.blk]
theorem eY.JB (h:eY w g M) (n:I64):eY (w.setCell ⟨g,0,none⟩ (.int .i64 n.1)) g {M with ver:=n}:=by
 refine⟨?_,h.p32,h.t32⟩
 simp[World.setCell,Array.getElem?_modify,h.blk,cM,aV.cs]
end
end Go.Proofs.YtlholdllibghbaaGreat
