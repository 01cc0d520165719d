/- Manifests in memory: their cells, how an argument is opened, a variable that holds one, what is loaded from it, stored into it. No condition. -/
import Derived.Test.YtlholdllibghbaaGreatG02
import Derived.Test.YtlholdllibghbaaGreatG08
import Derived.Test.YtlholdllibghbaaGreatG10
import Derived.Test.YtlholdllibghbaaGreatG07
import Derived.Test.YtlholdllibghbaaGreatG11
import Derived.Test.YtlholdllibghbaaGreatG17
import Derived.Laws.CopyRow
import Derived.Test.YtlholdllibghbaaGreatKit
namespace Go.Cit
open Go Go.RowKit
def nM (C:Array Value) (o:Nat) (D:List Value):Array Value:=(C.toList.take o++D++C.toList.drop (o+D.length)).toArray
theorem yD {X Y Z D:List Value} (h:D.length=Y.length):nM (X++(Y++Z)).toArray X.length D=(X++(D++Z)).toArray:=by
 unfold nM
 congr 1
 rw[List.toList_toArray,List.take_left,List.append_assoc,h]
 congr 2
 rw[←List.append_assoc,←List.length_append,List.drop_left]
section
variable {P:Program} {ops:Array Oper} {rest:List Oper} {o:Oper} {act:Act} {w w':World} {Q:Exit→Act→World→Prop}
theorem Gf {T E:TypeId} {b k n:Nat} {C D:Array Value} (hi:(P.info? T).map (·.size)=some n) (x y:Operand) {ρ:Operand→Value} (ho:o.op= .store T x y) (hx:ρ x= .pointer (some ⟨b,k,none⟩)) (hy:ρ y= .agg D) (hn:D.size=n) (hb:w.heap[b]? =some (.cells C E (0,0)))
 (hl:k+n≤C.size) (h1:D.all (·.oneCell')=true):(execOp ρ o).run P w= .ok .skip (w.setRow b (nM C k D.toList)):=by
 have hs:=run_storeCells_at (P:=P) b k E D.toList 0 C w hb (by simp;omega) (fun v hv=>(Array.all_eq_true_iff_forall_mem.1 h1) v (by simpa using hv))
 simp only[Nat.add_zero] at hs
 unfold execOp
 simp only[ho,hx,hy,Instr.storeAt,Instr.sureAddr,Sem.run_bind,Sem.run_pure,Result.andThen_ok]
 have:(storeVar T ⟨b,k,none⟩ (.agg D)).run P w= .ok () (w.setRow b (nM C k D.toList)):=by
  cases hq:P.info? T with
  | none=>simp[hq] at hi
  |
   some i=>
   have h2:D.size=i.size:=by simp[hq] at hi;omega
   simp[storeVar,sizeOf,typeInfo,hq,Value.cells,h2,hs,nM]
 rw[this]
 rfl
theorem eU {T E:TypeId} {b k n:Nat} {C D:Array Value} (hi:(P.info? T).map (·.size)=some n) (x y:Operand) (hgd:o.guard=none) (ho:o.op= .store T x y) (hd:o.dst=none) (hx:act.eval x= .pointer (some ⟨b,k,none⟩)) (hy:act.eval y= .agg D) (hn:D.size=n)
 (hb:w.heap[b]? =some (.cells C E (0,0))) (hl:k+n≤C.size) (h1:D.all (·.oneCell')=true)
 (h:∀w',w'.heap[b]? =some (.cells (nM C k D.toList) E (0,0))→Save (· ≠b) w w'→wpList P ops Q rest act w'):wpList P ops Q (o::rest) act w:=by
 refine wpList_skip (w':=w.setRow b (nM C k D.toList)) hgd (Gf hi x y ho hx hy hn hb hl h1) ?_
 rw[hd];exact h _ (kX hb) (lC _ _ _)
end
structure aW where
 ver:I64
 prev:List UInt8
 trial:I64
 cfg:aN
 tag:List UInt8
structure mO where
 ver:I64
 prev:List UInt8
 trial:I64
 cfg:zk
 tag:List UInt8
def aW.man (M:aW):mO:=⟨M.ver,M.prev,M.trial,M.cfg.cfg,M.tag⟩
def aW.cs (M:aW):List Value:=[.int .i64 M.ver.1]++(M.prev.map vb++([.int .i64 M.trial.1]++(uw M.cfg++M.tag.map vb)))
def cM (M:aW):Array Value:=M.cs.toArray
structure aW.At (w:World) (M:aW):Prop where
 p32:M.prev.length=32
 t32:M.tag.length=32
 cfg:M.cfg.At w
theorem aW.At.stay {w w':World} {M:aW} (h:M.At w) (hb:Below w.heap.size w w'):M.At w':=⟨h.p32,h.t32,h.cfg.stay hb⟩
theorem fO {M:aW} (hp:M.prev.length=32) (ht:M.tag.length=32):(cM M).size=69:=by simp[cM,aW.cs,hp,ht]
theorem fJ (M:aW):(cM M).all (·.oneCell')=true:=by simp[cM,aW.cs,uw,vb,Value.oneCell']
def sJ:Sh false:= .st (.cons .i64 (.cons (.arr 32 .u8) (.cons .i64 (.cons uK (.cons (.arr 32 .u8) .nil)))))
def ET (d:sJ.D):aW:=⟨vW d.1,d.2.1,vW d.2.2.1,EN d.2.2.2.1,d.2.2.2.2.1⟩
theorem Jp (t:List UInt8):List.flatMap (Sh.enc .u8) t=t.map vb:=by
 induction t with
 | nil=>rfl
 | cons y t ih=>rw[List.flatMap_cons,ih];rfl
theorem GX {w:World} {d:sJ.D} (h:sJ.ok w d):sJ.enc d=(ET d).cs:=by
 obtain⟨x,p,y,c,t,⟨⟩⟩:=d
 obtain⟨h1,_,h3,_⟩:=h
 show [Value.int .i64 x]++(List.flatMap (Sh.enc .u8) p++([Value.int .i64 y]++(uK.enc c++(List.flatMap (Sh.enc .u8) t++ []))))=[.int .i64 (vW x).1]++(p.map vb++([.int .i64 (vW y).1]++(uw (EN c)++t.map vb)))
 rw[Jp,Jp,OT,List.append_nil,jr h1,jr h3]
theorem Gu {w:World} {d:sJ.D} (h:sJ.ok w d):(ET d).At w:=by
 obtain⟨x,p,y,c,t,⟨⟩⟩:=d
 obtain⟨_,h2,_,h4,h5,_⟩:=h
 exact⟨h2.1,h5.1,Ny h4⟩
end Go.Cit
namespace Go.Proofs.YtlholdllibghbaaGreat
open Go Go.RowKit Go.Cit
theorem iE:fF Tryz.prog 55 69:=⟨⟨_,Tryz.underlying55,rfl⟩,by kernel_rfl⟩
theorem RF:fF Tryz.prog 26 3:=⟨⟨_,Tryz.underlying26,rfl⟩,by kernel_rfl⟩
theorem RN (b:Nat) (W:World):(Instr.fieldAt 55 (.pointer (some ⟨b,0,none⟩)) 0).run Tryz.prog W= .ok (.pointer (some ⟨b,0,none⟩)) W:=by kernel_rfl
theorem mf1 (b:Nat) (W:World):(Instr.fieldAt 55 (.pointer (some ⟨b,0,none⟩)) 1).run Tryz.prog W= .ok (.pointer (some ⟨b,1,none⟩)) W:=by kernel_rfl
theorem mf2 (b:Nat) (W:World):(Instr.fieldAt 55 (.pointer (some ⟨b,0,none⟩)) 2).run Tryz.prog W= .ok (.pointer (some ⟨b,33,none⟩)) W:=by kernel_rfl
theorem Po (b:Nat) (W:World):(Instr.fieldAt 55 (.pointer (some ⟨b,0,none⟩)) 3).run Tryz.prog W= .ok (.pointer (some ⟨b,34,none⟩)) W:=by kernel_rfl
theorem UG (b:Nat) (W:World):(Instr.fieldAt 55 (.pointer (some ⟨b,0,none⟩)) 4).run Tryz.prog W= .ok (.pointer (some ⟨b,37,none⟩)) W:=by kernel_rfl
structure dR (w:World) (g:Nat) (M:aW):Prop where
 blk:w.heap[g]? =some (.cells (cM M) 55 (0,0))
 p32:M.prev.length=32
 t32:M.tag.length=32
section
variable {w w':World} {g:Nat} {M:aW}
theorem dR.new (w:World) (h:M.At w):dR (w.alloc (.cells (cM M) 55)) w.heap.size M:=⟨heap_alloc_new _ _,h.p32,h.t32⟩
theorem dR.lt (h:dR w g M):g<w.heap.size:=(Array.getElem?_eq_some_iff.1 h.blk).1
theorem dR.keep (h:dR w g M) (hb:Below w.heap.size w w'):dR w' g M:=⟨aG h.blk hb,h.p32,h.t32⟩
theorem dR.save {S:Nat→Prop} (h:dR w g M) (hs:Save S w w') (hg:S g):dR w' g M:=⟨(hs.block g h.lt hg).trans h.blk,h.p32,h.t32⟩
theorem dR.size (h:dR w g M):(cM M).size=69:=fO h.p32 h.t32
theorem dR.cell (h:dR w g M) (k:Nat):w.cell? ⟨g,k,none⟩=M.cs[k]? :=by rw[World.cell?,h.blk];exact(by simp[cM]:(cM M)[k]? =M.cs[k]?)
theorem dR.ver (h:dR w g M):w.cell? ⟨g,0,none⟩=some (.int .i64 M.ver.1):=by rw[h.cell];rfl
theorem dR.trial (h:dR w g M):w.cell? ⟨g,33,none⟩=some (.int .i64 M.trial.1):=by
 rw[h.cell,aW.cs,List.getElem?_append_right AO,List.getElem?_append_right (by simp[h.p32])]
 simp[h.p32]
theorem dR.cfgs (h:dR w g M) (j:Nat) (hj:j<3):w.cell? ⟨g,34+j,none⟩=(uw M.cfg)[j]? :=by
 rw[h.cell,aW.cs,List.getElem?_append_right (by simp;omega),List.getElem?_append_right (by simp[h.p32];omega),List.getElem?_append_right (by simp[h.p32];omega),List.getElem?_append_left (by simp[h.p32];omega)]
 simp only[List.length_map,h.p32,List.length_singleton]
 rw[show 34+j-1-32-1=j by omega]
theorem dR.EM (h:dR w g M):(Instr.loadAt 26 (.pointer (some ⟨g,34,none⟩))).run Tryz.prog w= .ok (.agg #[.slice M.cfg.wa M.cfg.ws.length M.cfg.wc, .slice M.cfg.pa M.cfg.ps.length M.cfg.pc, .slice M.cfg.ca M.cfg.cs.length M.cfg.cc]) w:=by
 refine run_loadAt_mid w g 34 26 (uw M.cfg) _ (fun j v hv=> ?_) Tryz.underlying26 rfl AB
 have hj:j<3:=by simpa using (List.getElem?_eq_some_iff.1 hv).1
 rw[h.cfgs j hj];exact hv
theorem dR.prev (h:dR w g M):(Instr.loadAt 53 (.pointer (some ⟨g,1,none⟩))).run Tryz.prog w= .ok (.agg (M.prev.map vb).toArray) w:=by
 refine uX w g 1 M.prev h.p32 fun k hk=> ?_
 rw[h.cell,aW.cs,List.getElem?_append_right AO,List.getElem?_append_left (by simp;omega)]
 simp[hk]
theorem dR.tag (h:dR w g M):(Instr.loadAt 53 (.pointer (some ⟨g,37,none⟩))).run Tryz.prog w= .ok (.agg (M.tag.map vb).toArray) w:=by
 refine uX w g 37 M.tag h.t32 fun k hk=> ?_
 rw[h.cell,aW.cs,List.getElem?_append_right (by simp;omega),List.getElem?_append_right (by simp[h.p32];omega),List.getElem?_append_right (by simp[h.p32];omega),List.getElem?_append_right (by simp[h.p32];omega)]
 simp only[List.length_map,h.p32,List.length_singleton,List.length_cons,List.length_nil]
 rw[show 37+k-1-32-1-(0+1+1+1)=k by omega]
 simp[hk]
theorem dR.whole (h:dR w g M):(Instr.loadAt 55 (.pointer (some ⟨g,0,none⟩))).run Tryz.prog w= .ok (.agg (cM M)) w:=by
 refine run_loadAt_mid w g 0 55 M.cs _ (fun j v hv=> ?_) Tryz.underlying55 rfl ?_
 ·rw[Nat.zero_add,h.cell];exact hv
 ·rw[show M.cs.length=69 from by have:=h.size;simpa[cM] using this];kernel_rfl
theorem zG (hp:M.prev.length=32) {t:List UInt8} (ht:t.length=32):nM (cM M) 1 (t.map vb)=cM {M with prev:=t}:=by
 have:=yD (X:=[Value.int .i64 M.ver.1]) (Y:=M.prev.map vb) (Z:=[.int .i64 M.trial.1]++(uw M.cfg++M.tag.map vb)) (D:=t.map vb) (by simp[hp,ht])
 exact this
theorem En (hp:M.prev.length=32) (ht:M.tag.length=32) {t:List UInt8} (h:t.length=32):nM (cM M) 37 (t.map vb)=cM {M with tag:=t}:=by
 have:=yD (X:=[Value.int .i64 M.ver.1]++(M.prev.map vb++([.int .i64 M.trial.1]++uw M.cfg))) (Y:=M.tag.map vb) (Z:=[]) (D:=t.map vb) (by simp[ht,h])
 simp only[List.append_nil,List.append_assoc] at this
 have hl:([Value.int .i64 M.ver.1]++(M.prev.map vb++([.int .i64 M.trial.1]++uw M.cfg)):List Value).length=37:=by simp[hp]
 rw[hl] at this
 exact this
theorem D8 (hp:M.prev.length=32) (U:aN):nM (cM M) 34 (uw U)=cM {M with cfg:=U}:=by
 have:=yD (X:=[Value.int .i64 M.ver.1]++(M.prev.map vb++ [.int .i64 M.trial.1])) (Y:=uw M.cfg) (Z:=M.tag.map vb) (D:=uw U) AO
 simp only[List.append_assoc] at this
 have hl:([Value.int .i64 M.ver.1]++(M.prev.map vb++ [.int .i64 M.trial.1]):List Value).length=34:=by simp[hp]
 rw[hl] at this
 exact this
theorem Lp (hp:M.prev.length=32) (n:I64):nM (cM M) 33 [.int .i64 n.1]=cM {M with trial:=n}:=by
 have:=yD (X:=[Value.int .i64 M.ver.1]++M.prev.map vb) (Y:=[.int .i64 M.trial.1]) (Z:=uw M.cfg++M.tag.map vb) (D:=[.int .i64 n.1]) AO
 simp only[List.append_assoc] at this
 have hl:([Value.int .i64 M.ver.1]++M.prev.map vb:List Value).length=33:=by simp[hp]
 rw[hl] at this
 exact this
theorem NP {C:Array Value} {k:Nat} (v:Value) (hk:k<C.size):C.setIfInBounds k v=nM C k [v]:=by
 apply Array.ext'
 unfold nM
 rw[Array.toList_setIfInBounds,List.toList_toArray,List.set_eq_take_append_cons_drop,if_pos (by simpa using hk)]
 simp
theorem dR.EX (h:dR w g M) (n:I64):dR (w.setCell ⟨g,33,none⟩ (.int .i64 n.1)) g {M with trial:=n}:=by
 refine⟨?_,h.p32,h.t32⟩
 rw[←Lp h.p32 n,←NP _ (by rw[h.size];decide)]
 simp[World.setCell,Array.getElem?_modify,h.blk]
theorem dR.Ib (h:dR w g M) (n:I64):dR (w.setCell ⟨g,0,none⟩ (.int .i64 n.1)) g {M with ver:=n}:=by
 refine⟨?_,h.p32,h.t32⟩
 simp[World.setCell,Array.getElem?_modify,h.blk,cM,aW.cs]
end
end Go.Proofs.YtlholdllibghbaaGreat
