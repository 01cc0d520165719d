/- Manifests in memory: their cells, how an argument is opened, a variable that holds one, what is loaded from it, stored into it. No condition. -/
import Derived.Test.YtlholdllibghbaaGreatG02
import Derived.Test.YtlholdllibghbaaGreatG08
import Derived.Test.YtlholdllibghbaaGreatG10
import Derived.Test.YtlholdllibghbaaGreatG07
import Derived.Test.YtlholdllibghbaaGreatG11
import Derived.Test.YtlholdllibghbaaGreatParse1
import Derived.Laws.CopyRow
import Derived.Test.YtlholdllibghbaaGreatKit
namespace Go.Cit
open Go Go.RowKit
def nC (C:Array Value) (o:Nat) (D:List Value):Array Value:=(C.toList.take o++D++C.toList.drop (o+D.length)).toArray
theorem Ar {X Y Z D:List Value} (h:D.length=Y.length):nC (X++(Y++Z)).toArray X.length D=(X++(D++Z)).toArray:=by
 unfold nC
 congr 1
 rw[List.toList_toArray,List.take_left,List.append_assoc,h]
 congr 2
 rw[←List.append_assoc,←List.length_append,List.drop_left]
section
variable {P:Program} {ops:Array Oper} {rest:List Oper} {o:Oper} {act:Act} {w w':World} {Q:Exit→Act→World→Prop}
theorem JU {T E:TypeId} {b k n:Nat} {C D:Array Value} (hi:(P.info? T).map (·.size)=some n) (x y:Operand) {ρ:Operand→Value} (ho:o.op= .store T x y) (hx:ρ x= .pointer (some ⟨b,k,none⟩)) (hy:ρ y= .agg D) (hn:D.size=n) (hb:w.heap[b]? =some (.cells C E (0,0)))
 (hl:k+n≤C.size) (h1:D.all (·.oneCell')=true):(execOp ρ o).run P w= .ok .skip (w.setRow b (nC C k D.toList)):=by
 have hs:=run_storeCells_at (P:=P) b k E D.toList 0 C w hb (by simp;omega) (fun v hv=>(Array.all_eq_true_iff_forall_mem.1 h1) v (by simpa using hv))
 simp only[Nat.add_zero] at hs
 unfold execOp
 simp only[ho,hx,hy,Instr.storeAt,Instr.sureAddr,Sem.run_bind,Sem.run_pure,Result.andThen_ok]
 have:(storeVar T ⟨b,k,none⟩ (.agg D)).run P w= .ok () (w.setRow b (nC C k D.toList)):=by
  cases hq:P.info? T with
  | none=>simp[hq] at hi
  |
   some i=>
   have h2:D.size=i.size:=by simp[hq] at hi;omega
   simp[storeVar,sizeOf,typeInfo,hq,Value.cells,h2,hs,nC]
 rw[this]
 rfl
theorem dL {T E:TypeId} {b k n:Nat} {C D:Array Value} (hi:(P.info? T).map (·.size)=some n) (x y:Operand) (hgd:o.guard=none) (ho:o.op= .store T x y) (hd:o.dst=none) (hx:act.eval x= .pointer (some ⟨b,k,none⟩)) (hy:act.eval y= .agg D) (hn:D.size=n)
 (hb:w.heap[b]? =some (.cells C E (0,0))) (hl:k+n≤C.size) (h1:D.all (·.oneCell')=true)
 (h:∀w',w'.heap[b]? =some (.cells (nC C k D.toList) E (0,0))→Save (· ≠b) w w'→wpList P ops Q rest act w'):wpList P ops Q (o::rest) act w:=by
 refine wpList_skip (w':=w.setRow b (nC C k D.toList)) hgd (JU hi x y ho hx hy hn hb hl h1) ?_
 rw[hd];exact h _ (kV hb) (kS _ _ _)
end
structure bD where
 ver:I64
 prev:List UInt8
 trial:I64
 cfg:aS
 tag:List UInt8
structure rU where
 ver:I64
 prev:List UInt8
 trial:I64
 cfg:CV
 tag:List UInt8
def bD.man (M:bD):rU:=⟨M.ver,M.prev,M.trial,M.cfg.cfg,M.tag⟩
def bD.cs (M:bD):List Value:=[.int .i64 M.ver.1]++(M.prev.map vb++([.int .i64 M.trial.1]++(xq M.cfg++M.tag.map vb)))
def cM (M:bD):Array Value:=M.cs.toArray
structure bD.At (w:World) (M:bD):Prop where
 p32:M.prev.length=32
 t32:M.tag.length=32
 cfg:M.cfg.At w
theorem bD.At.stay {w w':World} {M:bD} (h:M.At w) (hb:Below w.heap.size w w'):M.At w':=⟨h.p32,h.t32,h.cfg.stay hb⟩
theorem eY {M:bD} (hp:M.prev.length=32) (ht:M.tag.length=32):(cM M).size=69:=by simp[cM,bD.cs,hp,ht]
theorem eH (M:bD):(cM M).all (·.oneCell')=true:=by simp[cM,bD.cs,xq,vb,Value.oneCell']
def vT:Sh false:= .st (.cons .i64 (.cons (.arr 32 .u8) (.cons .i64 (.cons yC (.cons (.arr 32 .u8) .nil)))))
def JC (d:vT.D):bD:=⟨zi d.1,d.2.1,zi d.2.2.1,Jy d.2.2.2.1,d.2.2.2.2.1⟩
theorem MW (t:List UInt8):List.flatMap (Sh.enc .u8) t=t.map vb:=by
 induction t with
 | nil=>rfl
 | cons y t ih=>rw[List.flatMap_cons,ih];rfl
theorem JI {w:World} {d:vT.D} (h:vT.ok w d):vT.enc d=(JC d).cs:=by
 obtain⟨x,p,y,c,t,⟨⟩⟩:=d
 obtain⟨h1,_,h3,_⟩:=h
 show [Value.int .i64 x]++(List.flatMap (Sh.enc .u8) p++([Value.int .i64 y]++(yC.enc c++(List.flatMap (Sh.enc .u8) t++ []))))=[.int .i64 (zi x).1]++(p.map vb++([.int .i64 (zi y).1]++(xq (Jy c)++t.map vb)))
 rw[MW,MW,Qh,List.append_nil,jV h1,jV h3]
theorem J3 {w:World} {d:vT.D} (h:vT.ok w d):(JC d).At w:=by
 obtain⟨x,p,y,c,t,⟨⟩⟩:=d
 obtain⟨_,h2,_,h4,h5,_⟩:=h
 exact⟨h2.1,h5.1,Ry h4⟩
end Go.Cit
namespace Go.Proofs.YtlholdllibghbaaGreat
open Go Go.RowKit Go.Cit
theorem eU:gK Tryz.prog 55 69:=⟨⟨_,Tryz.underlying55,rfl⟩,by kernel_rfl⟩
theorem Si:gK Tryz.prog 26 3:=⟨⟨_,Tryz.underlying26,rfl⟩,by kernel_rfl⟩
theorem U0 (b:Nat) (W:World):(Instr.fieldAt 55 (.pointer (some ⟨b,0,none⟩)) 0).run Tryz.prog W= .ok (.pointer (some ⟨b,0,none⟩)) W:=by kernel_rfl
theorem mf1 (b:Nat) (W:World):(Instr.fieldAt 55 (.pointer (some ⟨b,0,none⟩)) 1).run Tryz.prog W= .ok (.pointer (some ⟨b,1,none⟩)) W:=by kernel_rfl
theorem mf2 (b:Nat) (W:World):(Instr.fieldAt 55 (.pointer (some ⟨b,0,none⟩)) 2).run Tryz.prog W= .ok (.pointer (some ⟨b,33,none⟩)) W:=by kernel_rfl
theorem Pz (b:Nat) (W:World):(Instr.fieldAt 55 (.pointer (some ⟨b,0,none⟩)) 3).run Tryz.prog W= .ok (.pointer (some ⟨b,34,none⟩)) W:=by kernel_rfl
theorem V8 (b:Nat) (W:World):(Instr.fieldAt 55 (.pointer (some ⟨b,0,none⟩)) 4).run Tryz.prog W= .ok (.pointer (some ⟨b,37,none⟩)) W:=by kernel_rfl
structure fE (w:World) (g:Nat) (M:bD):Prop where
 blk:w.heap[g]? =some (.cells (cM M) 55 (0,0))
 p32:M.prev.length=32
 t32:M.tag.length=32
section
variable {w w':World} {g:Nat} {M:bD}
theorem fE.new (w:World) (h:M.At w):fE (w.alloc (.cells (cM M) 55)) w.heap.size M:=⟨heap_alloc_new _ _,h.p32,h.t32⟩
theorem fE.lt (h:fE w g M):g<w.heap.size:=(Array.getElem?_eq_some_iff.1 h.blk).1
theorem fE.keep (h:fE w g M) (hb:Below w.heap.size w w'):fE w' g M:=⟨aH h.blk hb,h.p32,h.t32⟩
theorem fE.save {S:Nat→Prop} (h:fE w g M) (hs:Save S w w') (hg:S g):fE w' g M:=⟨(hs.block g h.lt hg).trans h.blk,h.p32,h.t32⟩
theorem fE.size (h:fE w g M):(cM M).size=69:=eY h.p32 h.t32
theorem fE.cell (h:fE w g M) (k:Nat):w.cell? ⟨g,k,none⟩=M.cs[k]? :=by rw[World.cell?,h.blk];exact(by simp[cM]:(cM M)[k]? =M.cs[k]?)
theorem fE.ver (h:fE w g M):w.cell? ⟨g,0,none⟩=some (.int .i64 M.ver.1):=by rw[h.cell];rfl
theorem fE.trial (h:fE w g M):w.cell? ⟨g,33,none⟩=some (.int .i64 M.trial.1):=by
 rw[h.cell,bD.cs,List.getElem?_append_right AO,List.getElem?_append_right (by simp[h.p32])]
 simp[h.p32]
theorem fE.cfgs (h:fE w g M) (j:Nat) (hj:j<3):w.cell? ⟨g,34+j,none⟩=(xq M.cfg)[j]? :=by
 rw[h.cell,bD.cs,List.getElem?_append_right (by simp;omega),List.getElem?_append_right (by simp[h.p32];omega),List.getElem?_append_right (by simp[h.p32];omega),List.getElem?_append_left (by simp[h.p32];omega)]
 simp only[List.length_map,h.p32,List.length_singleton]
 rw[show 34+j-1-32-1=j by omega]
theorem fE.IB (h:fE w g M):(Instr.loadAt 26 (.pointer (some ⟨g,34,none⟩))).run Tryz.prog w= .ok (.agg #[.slice M.cfg.wa M.cfg.ws.length M.cfg.wc, .slice M.cfg.pa M.cfg.ps.length M.cfg.pc, .slice M.cfg.ca M.cfg.cs.length M.cfg.cc]) w:=by
 refine run_loadAt_mid w g 34 26 (xq M.cfg) _ (fun j v hv=> ?_) Tryz.underlying26 rfl AB
 have hj:j<3:=by simpa using (List.getElem?_eq_some_iff.1 hv).1
 rw[h.cfgs j hj];exact hv
theorem fE.prev (h:fE w g M):(Instr.loadAt 53 (.pointer (some ⟨g,1,none⟩))).run Tryz.prog w= .ok (.agg (M.prev.map vb).toArray) w:=by
 refine xZ w g 1 M.prev h.p32 fun k hk=> ?_
 rw[h.cell,bD.cs,List.getElem?_append_right AO,List.getElem?_append_left (by simp;omega)]
 simp[hk]
theorem fE.tag (h:fE w g M):(Instr.loadAt 53 (.pointer (some ⟨g,37,none⟩))).run Tryz.prog w= .ok (.agg (M.tag.map vb).toArray) w:=by
 refine xZ w g 37 M.tag h.t32 fun k hk=> ?_
 rw[h.cell,bD.cs,List.getElem?_append_right (by simp;omega),List.getElem?_append_right (by simp[h.p32];omega),List.getElem?_append_right (by simp[h.p32];omega),List.getElem?_append_right (by simp[h.p32];omega)]
 simp only[List.length_map,h.p32,List.length_singleton,List.length_cons,List.length_nil]
 rw[show 37+k-1-32-1-(0+1+1+1)=k by omega]
 simp[hk]
theorem fE.whole (h:fE w g M):(Instr.loadAt 55 (.pointer (some ⟨g,0,none⟩))).run Tryz.prog w= .ok (.agg (cM M)) w:=by
 refine run_loadAt_mid w g 0 55 M.cs _ (fun j v hv=> ?_) Tryz.underlying55 rfl ?_
 ·rw[Nat.zero_add,h.cell];exact hv
 ·rw[show M.cs.length=69 from by have:=h.size;simpa[cM] using this];kernel_rfl
theorem tY (hp:M.prev.length=32) {t:List UInt8} (ht:t.length=32):nC (cM M) 1 (t.map vb)=cM {M with prev:=t}:=by
 have:=Ar (X:=[Value.int .i64 M.ver.1]) (Y:=M.prev.map vb) (Z:=[.int .i64 M.trial.1]++(xq M.cfg++M.tag.map vb)) (D:=t.map vb) (by simp[hp,ht])
 exact this
theorem Bo (hp:M.prev.length=32) (ht:M.tag.length=32) {t:List UInt8} (h:t.length=32):nC (cM M) 37 (t.map vb)=cM {M with tag:=t}:=by
 have:=Ar (X:=[Value.int .i64 M.ver.1]++(M.prev.map vb++([.int .i64 M.trial.1]++xq M.cfg))) (Y:=M.tag.map vb) (Z:=[]) (D:=t.map vb) (by simp[ht,h])
 simp only[List.append_nil,List.append_assoc] at this
 have hl:([Value.int .i64 M.ver.1]++(M.prev.map vb++([.int .i64 M.trial.1]++xq M.cfg)):List Value).length=37:=by simp[hp]
 rw[hl] at this
 exact this
theorem Au (hp:M.prev.length=32) (U:aS):nC (cM M) 34 (xq U)=cM {M with cfg:=U}:=by
 have:=Ar (X:=[Value.int .i64 M.ver.1]++(M.prev.map vb++ [.int .i64 M.trial.1])) (Y:=xq M.cfg) (Z:=M.tag.map vb) (D:=xq U) AO
 simp only[List.append_assoc] at this
 have hl:([Value.int .i64 M.ver.1]++(M.prev.map vb++ [.int .i64 M.trial.1]):List Value).length=34:=by simp[hp]
 rw[hl] at this
 exact this
theorem OE (hp:M.prev.length=32) (n:I64):nC (cM M) 33 [.int .i64 n.1]=cM {M with trial:=n}:=by
 have:=Ar (X:=[Value.int .i64 M.ver.1]++M.prev.map vb) (Y:=[.int .i64 M.trial.1]) (Z:=xq M.cfg++M.tag.map vb) (D:=[.int .i64 n.1]) AO
 simp only[List.append_assoc] at this
 have hl:([Value.int .i64 M.ver.1]++M.prev.map vb:List Value).length=33:=by simp[hp]
 rw[hl] at this
 exact this
theorem QW {C:Array Value} {k:Nat} (v:Value) (hk:k<C.size):C.setIfInBounds k v=nC C k [v]:=by
 apply Array.ext'
 unfold nC
 rw[Array.toList_setIfInBounds,List.toList_toArray,List.set_eq_take_append_cons_drop,if_pos (by simpa using hk)]
 simp
theorem fE.BK (h:fE w g M) (n:I64):fE (w.setCell ⟨g,33,none⟩ (.int .i64 n.1)) g {M with trial:=n}:=by
 refine⟨?_,h.p32,h.t32⟩
 rw[←OE h.p32 n,←QW _ (by rw[h.size];decide)]
 simp[World.setCell,Array.getElem?_modify,h.blk]
theorem fE.L9 (h:fE w g M) (n:I64):fE (w.setCell ⟨g,0,none⟩ (.int .i64 n.1)) g {M with ver:=n}:=by
 refine⟨?_,h.p32,h.t32⟩
 simp[World.setCell,Array.getElem?_modify,h.blk,cM,bD.cs]
end
end Go.Proofs.YtlholdllibghbaaGreat
