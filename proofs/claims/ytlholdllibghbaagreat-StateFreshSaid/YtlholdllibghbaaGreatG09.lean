/- Texts of the proof, one behind the other: WireAdd, WireFields, TyG, Vals. No condition but those that each names. -/
import Derived.Test.YtlholdllibghbaaGreatG04
import Derived.Test.YtlholdllibghbaaGreatG02
import Derived.Test.YtlholdllibghbaaGreatG07
import Derived.Deep.RegionHeld3
import Derived.Deep.DrawnRows
import Derived.Outline
import Derived.Laws.IdiomStrings
import Derived.Lib.Bytealg
import Derived.Deep.MidRow
import Derived.Lib.ConvBytes
import Derived.Test.YtlholdllibghbaaGreatG05
import Derived.Test.YtlholdllibghbaaGreatKit
set_option maxRecDepth 100000
set_option maxHeartbeats 8000000
namespace Go.Proofs.YtlholdllibghbaaGreat
open Go Go.RowKit Go.Cit
attribute [local go_sem ↓] Go.wp_at_zero Go.wp_at_succ
structure Wr (base:Nat) (w:World) (b:Nat) (a:Option Addr) (l:List UInt8) (c:Nat) (e:Int):Prop where
 blk:w.heap[b]? =some (.cells #[.slice a l.length c, .bool true, .int .i64 e] 154 (0,0))
 own:Cit.Own 5 base w a l c
 ge:base≤b
 len:l.length≤65536
theorem Wr.lt {base w b a l c e} (h:Wr base w b a l c e):b<w.heap.size:=(Array.getElem?_eq_some_iff.1 h.blk).1
theorem Wr.c0 {base w b a l c e} (h:Wr base w b a l c e):w.cell? ⟨b,0,none⟩=some (.slice a l.length c):=by rw[World.cell?,h.blk];rfl
theorem Wr.c1 {base w b a l c e} (h:Wr base w b a l c e):w.cell? ⟨b,1,none⟩=some (.bool true):=by rw[World.cell?,h.blk];rfl
theorem Wr.c2 {base w b a l c e} (h:Wr base w b a l c e):w.cell? ⟨b,2,none⟩=some (.int .i64 e):=by rw[World.cell?,h.blk];rfl
theorem Wr.fr {base w b a l c e} (h:Wr base w b a l c e) (i:Nat):w.frozen? ⟨b,i,none⟩=false:=by simp[World.frozen?,h.blk]
theorem Wr.ne {base w b a l c e} (h:Wr base w b a l c e):Go.Cit.blk a≠some b:=by
 intro hb
 rcases h.own.form with⟨rfl,_,_⟩ |⟨g,cur,rfl,_,hg,_⟩
 ·simp[Go.Cit.blk] at hb
 ·simp only[Go.Cit.blk,Option.map_some,Option.some.injEq] at hb
  subst hb
  rw[h.blk] at hg
  simp at hg
theorem Wr.save {S:Nat→Prop} {base w w' b a l c e} (h:Wr base w b a l c e) (hs:Save S w w') (hb:S b) (ha:∀g,Go.Cit.blk a=some g→S g):Wr base w' b a l c e:=
 ⟨by rw[hs.block b h.lt hb];exact h.blk,h.own.save hs ha,h.ge,h.len⟩
theorem Wr.stay {base w w' b a l c e} (h:Wr base w b a l c e) (hs:Below w.heap.size w w'):Wr base w' b a l c e:=h.save (Save.of (S:=fun _=>True) hs) trivial (fun _ _=>trivial)
def Off (b:Nat) (a:Option Addr) (k:Nat):Prop:=k≠b∧some k≠Go.Cit.blk a
theorem Bf (b:Nat) (W:World):(Instr.fieldAt 154 (.pointer (some ⟨b,0,none⟩)) 0).run Tryz.prog W= .ok (.pointer (some ⟨b,0,none⟩)) W:=by kernel_rfl
theorem mD (b:Nat) (w:World) (ρ:Operand→Value) (x:Operand) (d:Option Tmp) (ty:TypeId) (ps:String) (gd:Option (Nat×Bool)) {af} (e:ρ x= .pointer (some ⟨b,0,none⟩)):
 (execOp ρ {dst:=d,op:=Op.fieldAddr 154 x 0,type:=ty,pos:=ps,after:=af,guard:=gd}).run Tryz.prog w= .ok (.value (.pointer (some ⟨b,0,none⟩))) w:=by
 unfold execOp
 dsimp only
 rw[e,Sem.run_bind,Bf]
 rfl
theorem ou (w:World):
 Calls Tryz.prog 83 #[] w fun e w'=>e= .returned (.pointer (some ⟨w.heap.size,0,none⟩))∧Wr w.heap.size w' w.heap.size none [] 0 0∧Below w.heap.size w w':=by
 go_enter Tryz.func83,Tryz.ntmps83
 go_wp2_with fail
 go_ret
 exact⟨rfl,⟨heap_alloc_new w _,Cit.Own.nil _ _ _,Nat.le_refl _,by simp⟩,(Below.refl _ _).alloc (Nat.le_refl _) _⟩
theorem qx {base w b a l c e} (h:Wr base w b a l c e):
 Calls Tryz.prog 109 #[.pointer (some ⟨b,0,none⟩)] w fun e w'=>e= .returned (.bool false)∧w=w':=by
 have c1:=h.c1
 go_enter Tryz.func109,Tryz.ntmps109
 go_wp2_with fail
 go_ret
 exact⟨rfl,rfl⟩
theorem yH {base w b a l c} (h:Wr base w b a l c 0):
 Calls Tryz.prog 49 #[.pointer (some ⟨b,0,none⟩)] w fun e w'=>∃a' X cp,Hid (X=l)∧e= .returned (.tuple #[.slice a' X.length cp, .int .i64 0])∧Mine w.heap.size w' a' X cp∧Below w.heap.size w w':=by
 have c0:=h.c0
 have c2:=h.c2
 have hl:=h.len
 go_enter Tryz.func49,Tryz.ntmps49
 go_wp2_with fail
 refine(qx h).mono ?_
 rintro e w1 ⟨rfl,rfl⟩
 go_wp2_with fail
 refine(Io (lq _ _ h.own.isRow AL)).mono ?_
 rintro e w2 ⟨a2,X,c2',HX,rfl,hm2,hb2⟩
 go_wp2_with fail
 go_ret2
 exact⟨a2,X,c2',HX,rfl,hm2,hb2⟩
def uJ (l:List UInt8):Nat:=min l.length 65537
def jr (ls:List (List UInt8)):Nat:=(ls.map uJ).sum
theorem yF (ls:List (List UInt8)) (k:Nat) (h:k<ls.length):jr (ls.take (k+1))=jr (ls.take k)+uJ ls[k]:=by
 rw[jr,jr,List.take_succ_eq_append_getElem h,List.map_append,List.sum_append];simp
theorem o7:∀(ls:List (List UInt8)),jr ls≤ls.flatten.length∧(jr ls≤65536→jr ls=ls.flatten.length)
 | []=>by simp[jr]
 |
  x::ls=>by
  obtain⟨h1,h2⟩:=o7 ls
  simp only[jr,List.map_cons,List.sum_cons,List.flatten_cons,List.length_append] at h1 h2 ⊢
  have h3:uJ x≤x.length:=Nat.min_le_left _ _
  have h4:uJ x≤65536→uJ x=x.length:=by unfold uJ;omega
  constructor
  ·omega
  ·intro h;have:=h2 AL;have:=h4 AL;omega
def Ac (base:Nat) (w:World) (b:Nat) (a:Option Addr) (l F:List UInt8) (c g n m:Nat):Nat→Value→World→Prop
 | 46,v,_=>v= .slice a l.length c
 | 47,v,_=>v= .slice (some ⟨g,0,none⟩) m n
 | 48,v,wx=>∃a2 c2,v= .slice a2 F.length c2∧Mine w.heap.size wx a2 F c2
 | 49,v,wx=>∃a3 c3,v= .slice a3 (l++F).length c3∧Cit.Own 5 base wx a3 (l++F) c3∧dP w.heap.size a a3
 | _,v,_=>v= .pointer (some ⟨b,0,none⟩)
def Dk (base:Nat) (w:World) (b:Nat) (a:Option Addr) (l F:List UInt8) (c:Nat) (δ:Nat→Bool) (wx:World):Prop:=
 Save (Off b a) w wx∧(δ 6=false→wx.heap=w.heap)∧(δ 7=false→Cit.Own 5 base wx a l c)∧(δ 10=false→wx.heap[b]? =w.heap[b]?)∧
  (δ 10=true→∃a3 c3,wx.heap[b]? =some (.cells #[.slice a3 (l++F).length c3, .bool true, .int .i64 0] 154 (0,0))∧Cit.Own 5 base wx a3 (l++F) c3∧dP w.heap.size a a3)
def BA (b:Nat) (a:Option Addr) (i:Nat) (wx w':World):Prop:=if i=7 then Save (Off b a) wx w' else Save (· ≠b) wx w'
theorem eG {base w b a l F c δ wx} (i:Nat) (h:Dk base w b a l F c δ wx) (h6:i≠6) (h7:i≠7) (h10:i≠10):Dk base w b a l F c (upd δ i) wx:=by
 unfold Dk at h ⊢
 rw[aA δ h6,aA δ h7,aA δ h10];exact h
theorem eP {b a} (i:Nat) (wx:World):BA b a i wx wx:=by unfold BA;split<;>exact Save.refl _ _
theorem own_ne {E base w a l cap b} {C:Array Value} {T:TypeId} {fr:Nat×Nat} (h:Cit.Own E base w a l cap) (hb:w.heap[b]? =some (.cells C T fr)) (hT:E≠T):Go.Cit.blk a≠some b:=by
 intro he
 rcases h.form with⟨rfl,_,_⟩ |⟨g,cur,rfl,_,hg,_⟩
 ·simp[Go.Cit.blk] at he
 ·simp only[Go.Cit.blk,Option.map_some,Option.some.injEq] at he
  subst he
  rw[hb] at hg
  injection hg with hg
  injection hg with h1 h2
  exact hT h2.symm
theorem yI {w w':World} {p:Addr} {vs:List Value} {ls:List (List UInt8)} (h:Lib.PartsAt w p vs ls) (hh:w'.heap=w.heap):Lib.PartsAt w' p vs ls:=by
 have hce:∀q,w'.cell? q=w.cell? q:=fun q=>by simp[World.cell?,hh]
 obtain⟨x,y,z⟩:=h
 refine⟨x,fun i v hv=>(hce _).trans (y i v hv),fun i v l hv hl=> ?_⟩
 obtain⟨q,cap,e,h1,h2⟩:=z i v l hv hl
 exact⟨q,cap,e,h1,fun a ha j x hx=>(hce _).trans (h2 a ha j x hx)⟩
theorem Bl {base w b a l F c g n m d v wx w'} (h:Ac base w b a l F c g n m d v wx) (h48:d≠48) (h49:d≠49):Ac base w b a l F c g n m d v w':=by
 unfold Ac at h ⊢
 split<;>simp_all
theorem Aq {base w b a l F c g n m d v wx w' i e δ} (hw:Wr base w b a l c e) (hc:Dk base w b a l F c δ wx) (hG:BA b a i wx w') (h:Ac base w b a l F c g n m d v wx) (h7:d=49→i≠7) (h10:d=49→δ 10=false∨i≠10):Ac base w b a l F c g n m d v w':=by
 by_cases h48:d=48
 ·subst h48
  obtain⟨a2,c2,hv,hm⟩:=h
  have ha:∀k,Go.Cit.blk a=some k→k<w.heap.size:=fun k hk=>(hw.own.aQ hk).2
  have hs:Save (Off b a) wx w':=by
   unfold BA at hG
   split at hG
   ·exact hG
   ·exact hG.less (fun k _ hk=>hk.1)
  refine⟨a2,c2,hv,hm.save hs (fun k hk=> ?_)⟩
  have:=hm.new k hk
  exact⟨by have:=hw.lt;omega,fun he=>by have:=ha k he.symm;omega⟩
 by_cases h49:d=49
 ·subst h49
  obtain⟨a3,c3,hv,ho,hn⟩:=h
  unfold BA at hG
  rw[if_neg (h7 rfl)] at hG
  refine⟨a3,c3,hv,ho.save hG (fun k hk=> ?_),hn⟩
  rintro rfl
  cases hd:δ 10
  ·have:=hc.2.2.2.1 hd
   exact own_ne ho (this.trans hw.blk) AP hk
  ·obtain⟨_,_,hb,_⟩:=hc.2.2.2.2 hd
   exact own_ne ho hb AP hk
 exact Bl h h48 h49
theorem pV {base w b a l c} (h:Wr base w b a l c 0) (g n:Nat) (vs:List Value) (ls:List (List UInt8)) (hP:Lib.PartsAt w ⟨g,0,none⟩ vs ls) (hcap:ls.length≤n) (hn:ls.length≤10) (hne:ls.flatten≠ []) (hroom:l.length+ls.flatten.length≤65536) (hbase:base≤w.heap.size):
 Calls Tryz.prog 108 #[.pointer (some ⟨b,0,none⟩), .slice (some ⟨g,0,none⟩) ls.length n] w fun e w'=>∃a' X c',Hid (X=l++ls.flatten)∧e= .returned (.pointer (some ⟨b,0,none⟩))∧Wr base w' b a' X c' 0∧Save (Off b a) w w'∧dP w.heap.size a a':=by
 have c0:=h.c0
 have c2:=h.c2
 obtain⟨F,HF⟩:=AU ls.flatten
 have hF1:Hid (F≠ []):=by rw[Hid,HF.o];exact hne
 have hF2:l.length+F.length≤65536:=by rw[HF.o];exact hroom
 have hPd:Lib.PartsAt w.drew ⟨g,0,none⟩ vs ls:=by obtain⟨x,y,z⟩:=hP;exact⟨x,y,z⟩
 have hcat:=mZ w.drew g 0 n vs ls hPd hcap (by rw[←HF.o];omega) AL
 rw[←HF.o] at hcat
 have HR:Hid (∀k,k≤ls.length→jr (ls.take k)≤F.length):=by
  intro k hk
  rw[HF.o]
  refine Nat.le_trans (o7 _).1 ?_
  have:=congrArg (fun z=>(List.flatten z).length) (List.take_append_drop k ls)
  simp only[List.flatten_append,List.length_append] at this
  omega
 clear hne hroom
 go_enter Tryz.func108,Tryz.ntmps108
 go_wp2_with fail
 refine(qx h).mono ?_
 rintro e w1 ⟨rfl,rfl⟩
 go_wp2_with fail
 go_loop [5,7,26] (fun room it i=>∃k:Nat,Hid (k≤ls.length)∧i= .int .i64 k∧∃r:Nat,Hid (r=jr (ls.take k))∧room= .int .i64 (65536-(l.length:Int)-(r:Int))) (fun _ _ i=>ls.length-(intOf i).toNat)
 case atStart=>exact⟨0,Nat.zero_le _,rfl,0,rfl,by simp⟩
 case round=>
  obtain⟨k,hk,rfl,r,hr,rfl⟩:=hrel
  have hl:=h.len
  have hr0:r≤F.length:=by rw[hr.o];exact HR.o k hk.o
  by_cases hlt:k<ls.length
  ·obtain⟨p,cp,l',hl',hcell,_,_⟩:=hP.get k hlt
   have hcell':w.cell? ⟨g,k,none⟩=some (.slice p l'.length cp):=by
    rw[←hcell];unfold Addr.add;split<;>simp_all
   have hm:Hid (r+uJ l'=jr (ls.take (k+1))):=by
    rw[Hid,yF ls k hlt,←hr.o]
    have:ls[k]=l':=by rw[List.getElem?_eq_getElem hlt] at hl';exact Option.some.inj hl'
    rw[this]
   clear hl' hcell
   go_wp2_with fail
   go_round
   case rel=>exact⟨k+1,hlt,by go_num,r+uJ l',hm.o,by simp only[uJ];congr 1;omega⟩
   case measure=>simp[intOf];omega
  ·have hk2:ls.take k=ls:=List.take_of_length_le AL
   have h0:r≤65536-l.length:=by omega
   have c0':∀m,(w.drewN m).cell? ⟨b,0,none⟩=some (.slice a l.length c):=fun _=>c0
   go_wp2_with fail
   have hbk:=h.blk
   have hF4:F≠ []:=hF1.o
   refine mP (Dk base w b a l F c) (BA b a) (Ac base w b a l F c g n ls.length) AB AB ?_ ?_ ?_ ?_
   ·intro w' hb hh
    exact⟨Save.of hb,fun _=>hh,fun _=>h.own.stay hb,fun _=>by rw[hh],fun hx=>absurd hx AP⟩
   ·intro δ i j o v wx w' ho hij _ hj hi hc hG hT
    rcases hd:o.dst with _ |d
    ·exact gq hd _ _
    ·rw[iR hd] at hT ⊢
     refine Aq h hc hG hT (fun h49=> ?_) (fun h49=> ?_)
     ·subst h49
      have:=zY (d:=49) (j:=7) AB ho hd
      omega
     ·subst h49
      by_cases h10:i=10
      ·subst h10;exact .inl hi
      ·exact .inr h10
   ·repeat' (first |exact dL |refine ah ?_ ?_)
    all_goals intro δ wa wx hk
    ·exact⟨aj rfl,kF (.tmp 0) rfl ⟨eP _ wx,eG _ hk.inv AP AP AP,hk.o 0⟩⟩
    ·exact⟨aj rfl,kF (.tmp 0) rfl ⟨eP _ wx,eG _ hk.inv AP AP AP,hk.o 0⟩⟩
    ·exact⟨aj rfl,yR (.tmp 43) rfl (hk.s 43) ⟨eP _ wx,eG _ hk.inv AP AP AP,rfl⟩⟩
    ·refine⟨aj rfl, ?_⟩
     have e44:wa.eval (.tmp 44)= .pointer (some ⟨b,0,none⟩):=hk.s 44
     rw[mD _ _ _ _ _ _ _ _ e44]
     exact⟨eP _ wx,eG _ hk.inv AP AP AP,rfl⟩
    ·have h10:=hk.closed.yet 11 10 4 AB hk.yet
     have hcell:wx.cell? ⟨b,0,none⟩=some (.slice a l.length c):=(World.cell?_of_block (a:=⟨b,0,none⟩) (hk.inv.2.2.2.1 h10)).trans c0
     exact⟨aj rfl,bP (.tmp 45) rfl (hk.s 45) (by simp[go_sem,hcell]) ⟨eP _ wx,eG _ hk.inv AP AP AP,rfl⟩⟩
    ·exact⟨aj rfl,kF (.tmp 1) rfl ⟨eP _ wx,eG _ hk.inv AP AP AP,hk.o 1⟩⟩
    ·have h7:=hk.closed.yet 11 7 6 AB hk.yet
     have h10:=hk.closed.yet 11 10 6 AB hk.yet
     obtain⟨i1,i2,i3,i4,i5⟩:=hk.inv
     have hh:=i2 hk.yet
     have hcat:=mZ wx g 0 n vs ls (yI hP hh) hcap (by rw[←HF.o];omega) AL
     rw[←HF.o] at hcat
     refine⟨aj rfl,dw rfl (hk.fn _) #[.slice (some ⟨g,0,none⟩) ls.length n] (fun w=>AB) (by simp[show wa.eval (.tmp 47)=_ from hk.s 47]) (hcat.mono ?_)⟩
     rintro e w' ⟨a2,c2',he,hm,hb⟩
     refine⟨_,he, ?_,⟨i1.trans (Save.of hb),fun hx=>absurd hx (by rw[upd_same];decide),fun _=>(i3 h7).stay hb,fun _=>(hb.block b (by rw[hh];exact h.lt)).trans (i4 h10),fun hx=> ?_⟩,a2,c2',rfl, ?_⟩
     ·exact Save.of hb
     ·rw[aA δ AP,h10] at hx;exact absurd hx AP
     ·rw[show wx.heap.size=w.heap.size by rw[hh]] at hm;exact hm
    ·have h10:=hk.closed.yet 11 10 7 AB hk.yet
     obtain⟨i1,i2,i3,i4,i5⟩:=hk.inv
     obtain⟨a2,c2',hv2,hm2⟩:=hk.s 48
     refine⟨aj rfl,zV bt (.tmp 46) (.tmp 48) rfl (i3 hk.yet) hm2.row hF4 AL (Nat.le_trans hbase i1.size) (hk.s 46) hv2 ?_⟩
     intro a3 c3 w' hown3 hgr3 hnear
     have hs3:Save (Off b a) wx w':=(Save.grown hgr3).less (fun k _ hk=>hk.2)
     have hb3:w'.heap[b]? =wx.heap[b]? :=hgr3.block b (Nat.lt_of_lt_of_le h.lt i1.size) (Ne.symm h.ne)
     refine⟨hs3,⟨i1.trans hs3,fun hx=> ?_,fun hx=>absurd hx (by rw[upd_same];decide),fun _=>hb3.trans (i4 h10),fun hx=> ?_⟩,a3,c3,rfl,hown3,fun k hk=> ?_⟩
     ·rw[hk.next.needs 11 7 6 AB (upd_same _ _)] at hx;exact absurd hx AP
     ·rw[aA δ AP,h10] at hx;exact absurd hx AP
     ·rcases hnear k hk with h1 |h1
      ·exact .inl h1
      ·exact .inr (Nat.le_trans i1.size h1)
    ·exact⟨aj rfl,yR (.tmp 42) rfl (hk.s 42) ⟨eP _ wx,eG _ hk.inv AP AP AP,rfl⟩⟩
    ·refine⟨aj rfl, ?_⟩
     have e44:wa.eval (.tmp 50)= .pointer (some ⟨b,0,none⟩):=hk.s 50
     rw[mD _ _ _ _ _ _ _ _ e44]
     exact⟨eP _ wx,eG _ hk.inv AP AP AP,rfl⟩
    ·obtain⟨i1,i2,i3,i4,i5⟩:=hk.inv
     obtain⟨a3,c3,hv3,hown3,hn3⟩:=hk.s 49
     have hb:=(i4 hk.yet).trans hbk
     have hcell:wx.cell? ⟨b,0,none⟩=some (.slice a l.length c):=by rw[World.cell?,hb];rfl
     have hfr:wx.frozen? ⟨b,0,none⟩=false:=by simp[World.frozen?,hb]
     refine⟨aj rfl,vk (.tmp 51) (.tmp 49) rfl (hk.s 51) hv3 (w':=wx.setCell ⟨b,0,none⟩ (.slice a3 (l++F).length c3)) (by simp[go_sem,hcell,hfr]) ?_⟩
     have hs:Save (· ≠b) wx (wx.setCell ⟨b,0,none⟩ (.slice a3 (l++F).length c3)):=Save.set
     refine⟨hs,⟨i1.trans (hs.less fun k _ hk=>hk.1),fun hx=> ?_,fun hx=> ?_,fun hx=>absurd hx (by rw[upd_same];decide),fun _=>⟨a3,c3, ?_, ?_,hn3⟩⟩,gq rfl _ _⟩
     ·rw[hk.next.needs 11 10 6 AB (upd_same _ _)] at hx;exact absurd hx AP
     ·rw[hk.next.needs 11 10 7 AB (upd_same _ _)] at hx;exact absurd hx AP
     ·simp[World.setCell,Array.getElem?_modify,hb]
     ·exact hown3.save hs (fun k hk hkb=>own_ne hown3 hb AP (hk.trans (by rw[hkb])))
   ·intro δ wa wx hall hc hsame hT
    obtain⟨a3,c3,hb3,hown3,hn3⟩:=hc.2.2.2.2 (hall 10 AP)
    have hS:=hc.1
    obtain⟨a2,c2',h48,_⟩:=hT 48 AB
    obtain⟨a4,c4,h49,_⟩:=hT 49 AB
    have he:=fB hsame [42,43,44,45,46,47,48,49,50,51] AB
    simp only[List.foldl_cons,List.foldl_nil] at he
    rw[show wa.eval (.tmp 42)=_ from hT 42 AB,show wa.eval (.tmp 43)=_ from hT 43 AB,show wa.eval (.tmp 44)=_ from hT 44 AB,show wa.eval (.tmp 45)=_ from hT 45 AB,show wa.eval (.tmp 46)=_ from hT 46 AB,show wa.eval (.tmp 47)=_ from hT 47 AB,h48,h49,show wa.eval (.tmp 50)=_ from hT 50 AB,show wa.eval (.tmp 51)=_ from hT 51 AB] at he
    subst he
    clear hT hc hall hsame
    go_wp2_with fail
    go_ret
    exact⟨a3,l++F,c3,by rw[Hid,HF.o],rfl,⟨hb3,hown3,h.ge,by rw[List.length_append];exact hF2⟩,hS,hn3⟩
open Go Go.RowKit Go.Cit
def Added (base:Nat) (w:World) (b:Nat) (a:Option Addr) (Y:List UInt8) (e:Ending) (w':World):Prop:=
 ∃a' X c',Hid (X=Y)∧e= .returned (.pointer (some ⟨b,0,none⟩))∧Wr base w' b a' X c' 0∧Save (Off b a) w w'∧dP w.heap.size a a'
theorem Added.from {base w0 w b a Y e w'} (hb:Below w0.heap.size w0 w) (h:Added base w b a Y e w'):Added base w0 b a Y e w':=by
 obtain⟨a',X,c',h1,h2,h3,h4,h5⟩:=h
 exact⟨a',X,c',h1,h2,h3,(Save.of hb).trans h4,fun g hg=>(h5 g hg).imp id (fun h=>Nat.le_trans hb.size h)⟩
theorem qj {base w b a l c} (h:Wr base w b a l c 0) (hbase:base≤w.heap.size) (t:TypeId) {a1:Option Addr} {m:List UInt8} {c1:Nat} (r1:Row w a1 m c1) (hne:m≠ []) (hroom:l.length+m.length≤65536):
 Calls Tryz.prog 108 #[.pointer (some ⟨b,0,none⟩), .slice (some ⟨w.heap.size,0,none⟩) 1 1] (w.alloc (.cells #[.slice a1 m.length c1] t)) (Added base w b a (l++m)):=by
 have hP:=nG w [.slice a1 m.length c1] [m] t rfl (by
  intro i v l hv hl
  match i with
  | 0=>simp at hv hl;subst hv hl;exact eY r1
  | i+1=>simp at hv)
 have hb:Below w.heap.size w (w.alloc (.cells #[.slice a1 m.length c1] t)):=(Below.refl _ _).alloc (Nat.le_refl _) _
 have hk:=pV (h.stay hb) w.heap.size 1 _ _ hP AO AO (by simpa using hne) (by simpa using hroom) (Nat.le_trans hbase hb.size)
 simp only[List.flatten_cons,List.flatten_nil,List.append_nil] at hk
 exact hk.mono fun e w' hh=>Added.from hb hh
theorem zk {base w b a l c} (h:Wr base w b a l c 0) (hbase:base≤w.heap.size) (t:TypeId) {a1 a2:Option Addr} {m n:List UInt8} {c1 c2:Nat} (r1:Row w a1 m c1) (r2:Row w a2 n c2) (hne:m≠ []) (hroom:l.length+m.length+n.length≤65536):
 Calls Tryz.prog 108 #[.pointer (some ⟨b,0,none⟩), .slice (some ⟨w.heap.size,0,none⟩) 2 2] (w.alloc (.cells #[.slice a1 m.length c1, .slice a2 n.length c2] t)) (Added base w b a (l++(m++n))):=by
 have hP:=nG w [.slice a1 m.length c1, .slice a2 n.length c2] [m,n] t rfl (by
  intro i v l hv hl
  match i with
  | 0=>simp at hv hl;subst hv hl;exact eY r1
  | 1=>simp at hv hl;subst hv hl;exact eY r2
  | i+2=>simp at hv)
 have hb:Below w.heap.size w (w.alloc (.cells #[.slice a1 m.length c1, .slice a2 n.length c2] t)):=(Below.refl _ _).alloc (Nat.le_refl _) _
 have hk:=pV (h.stay hb) w.heap.size 2 _ _ hP AO AO (by simp[hne]) (by simp;omega) (Nat.le_trans hbase hb.size)
 simp only[List.flatten_cons,List.flatten_nil,List.append_nil] at hk
 exact hk.mono fun e w' hh=>Added.from hb hh
theorem jU {base w b a l c} (h:Wr base w b a l c 0) (hbase:base≤w.heap.size) (x:UInt8) (hroom:l.length+1≤65536):
 Calls Tryz.prog 88 #[.pointer (some ⟨b,0,none⟩),vb x] w (Added base w b a (l++ [x])):=by
 have hb:Below w.heap.size w (w.alloc (.cells #[vb x] 5)):=(Below.refl _ _).alloc (Nat.le_refl _) _
 have hk:=qj (h.stay hb) (Nat.le_trans hbase hb.size) 40 (EO w _ 5 (0,0) [x] rfl AO) AO (by simpa using hroom)
 rw[show([x]:List UInt8).length=1 from rfl,show(w.alloc (.cells #[vb x] 5)).heap.size=w.heap.size+1 by simp] at hk
 go_enter Tryz.func88,Tryz.ntmps88
 go_wp2_with fail
 refine Calls.mono hk ?_
 rintro e w' hh
 obtain⟨a',X,c',h1,rfl,h3⟩:=Added.from hb hh
 go_wp2_with fail
 go_ret
 exact⟨a',X,c',h1,rfl,h3⟩
theorem bH {base w b a l c} (h:Wr base w b a l c 0) (hbase:base≤w.heap.size) (n:Int) (hroom:l.length+8≤65536):
 Calls Tryz.prog 84 #[.pointer (some ⟨b,0,none⟩), .int .i64 n] w (Added base w b a (l++rowB (BI n) 8)):=by
 have hq:IntKind.u64.wrap n=((BI n).toNat:Int):=by rw[dI,DC]
 go_enter Tryz.func84,Tryz.ntmps84
 go_wp2_with fail
 refine(G6 (aF _ _) (uX _ _)).mono ?_
 rintro e w1 ⟨a1,X,c1,HX,rfl,hm1,hb1⟩
 have hX:Hid (X.length=8):=by rw[Hid,HX.o,aF]
 have hk:=qj (h.stay hb1) (Nat.le_trans hbase hb1.size) 40 hm1.row (by intro h0;rw[h0] at hX;exact absurd hX.o AP) (by rw[hX.o];exact hroom)
 go_wp2_with fail
 refine Calls.mono hk ?_
 rintro e w' hh
 obtain⟨a',Y,c',h1,rfl,h3⟩:=Added.from hb1 hh
 go_wp2_with fail
 go_ret
 exact⟨a',Y,c',by rw[Hid,h1.o,HX.o],rfl,h3⟩
def eH (is:Bool):List UInt8:=[if is then 1 else 0]
theorem uS {base w b a l c} (h:Wr base w b a l c 0) (hbase:base≤w.heap.size) (is:Bool) (hroom:l.length+1≤65536):
 Calls Tryz.prog 87 #[.pointer (some ⟨b,0,none⟩), .bool is] w (Added base w b a (l++eH is)):=by
 go_enter Tryz.func87,Tryz.ntmps87
 cases is
 ·go_wp2_with fail
  have hk:=jU h hbase 0 hroom
  refine Calls.mono hk ?_
  rintro e w' ⟨a',X,c',h1,rfl,h3⟩
  go_wp2_with fail
  go_ret
  exact⟨a',X,c',h1,rfl,h3⟩
 ·go_wp2_with fail
  have hk:=jU h hbase 1 hroom
  refine Calls.mono hk ?_
  rintro e w' ⟨a',X,c',h1,rfl,h3⟩
  go_wp2_with fail
  go_ret
  exact⟨a',X,c',h1,rfl,h3⟩
def jm (m:List UInt8):List UInt8:=rowB (C9 (wG m.length)) 4++m
theorem aO (m:List UInt8):(jm m).length=m.length+4:=by rw[jm,List.length_append,aF,Nat.add_comm]
theorem lW {base w b a l c} (h:Wr base w b a l c 0) (hbase:base≤w.heap.size) {a1:Option Addr} {m:List UInt8} {c1:Nat} (r1:Row w a1 m c1) (hroom:l.length+4+m.length≤65536):
 Calls Tryz.prog 89 #[.pointer (some ⟨b,0,none⟩), .slice a1 m.length c1] w (Added base w b a (l++jm m)):=by
 have hq:IntKind.u32.wrap (m.length:Int)=((wG m.length).toNat:Int):=by rw[cO,vO]
 go_enter Tryz.func89,Tryz.ntmps89
 go_wp2_with fail
 refine(G6 (aF _ _) (vg _ (wG m.length))).mono ?_
 rintro e w1 ⟨a2,X,c2,HX,rfl,hm1,hb1⟩
 have hX:Hid (X.length=4):=by rw[Hid,HX.o,aF]
 have hk:=zk (h.stay hb1) (Nat.le_trans hbase hb1.size) 40 hm1.row (r1.stay hb1) (by intro h0;rw[h0] at hX;exact absurd hX.o AP) (by rw[hX.o];exact hroom)
 go_wp2_with fail
 refine Calls.mono hk ?_
 rintro e w' hh
 obtain⟨a',Y,c',h1,rfl,h3⟩:=Added.from hb1 hh
 go_wp2_with fail
 go_ret
 exact⟨a',Y,c',by rw[Hid,h1.o,HX.o];rfl,rfl,h3⟩
end Go.Proofs.YtlholdllibghbaaGreat
namespace Go.Cit
open Go Go.RowKit
section
variable {P:Program} {ops:Array Oper} {Q:Exit→Act→World→Prop}
theorem aB {o:Oper} {a:Act} (d:Nat) (b:Bool) (h:mV ops o d b=true) (hv:a.eval (.tmp d)= .bool !b):Region.wanted o (yielded ops a.tmps)=false:=by
 unfold Region.wanted
 unfold mV at h
 split at h
 ·exact absurd h AP
 ·rename_i j c hg
  rw[hg]
  simp only[Bool.and_eq_true,decide_eq_true_eq] at h
  obtain⟨rfl,h⟩:=h
  split at h
  ·rename_i p hp
   simp only[decide_eq_true_eq] at h
   have hd:d<a.tmps.size:=by
    rcases Nat.lt_or_ge d a.tmps.size with h' |h'
    ·exact h'
    ·simp[Act.eval,Array.getD,Nat.not_lt.2 h',undef] at hv
   have e:a.tmps[d]? =some (.bool !c):=by
    rw[Array.getElem?_eq_getElem hd,←hv]
    simp[Act.eval,Array.getD,hd]
   cases c<;>simp[yielded,hp,h,e]
  ·exact absurd h AP
end
end Go.Cit
namespace Go.Cit
open Go Go.RowKit
def setB (ops:Array Oper) (n d:Nat):Bool:=(List.range n).any fun j=>match ops[j]? with |some p=>decide (p.dst=some d) |none=>false
def Gp (ops:Array Oper) (n:Nat):Bool:=ops.all fun o=>match o.dst with |some d=>decide (d<n) |none=>true
def rQ (a0:Act) (Y:Nat→Value):List Nat→Prop
 | []=>True
 | d::l=>a0.eval (.tmp d)=Y d∧rQ a0 Y l
theorem rQ.get {a0:Act} {Y:Nat→Value}:∀ {l:List Nat},rQ a0 Y l→∀d,l.contains d=true→a0.eval (.tmp d)=Y d
 | [],_,d,h=>by simp at h
 |
  e::l,⟨h1,h2⟩,d,h=>by
  by_cases he:d=e
  ·rw[he];exact h1
  ·exact h2.get d (by simpa[he] using h)
structure l9 (ops:Array Oper) (X:Nat→Value) (a0:Act) (n:Nat) (a:Act):Prop where
 defers:a.defers=a0.defers
 size:a.tmps.size=a0.tmps.size
 slot:∀d,setB ops n d=true→a.eval (.tmp d)=X d
 old:∀d,setB ops n d=false→a.eval (.tmp d)=a0.eval (.tmp d)
structure nH (ops:Array Oper) (X Y:Nat→Value) (olds:List Nat) (n:Nat) (a:Act):Prop where
 slot:∀d,setB ops n d=true→a.eval (.tmp d)=X d
 old:∀d,setB ops n d=false→olds.contains d=true→a.eval (.tmp d)=Y d
theorem nH.s {ops:Array Oper} {X Y:Nat→Value} {olds:List Nat} {n:Nat} {a:Act} (h:nH ops X Y olds n a) (d:Nat) (e:setB ops n d=true:=by kernel_rfl):a.eval (.tmp d)=X d:=h.slot d e
theorem nH.o {ops:Array Oper} {X Y:Nat→Value} {olds:List Nat} {n:Nat} {a:Act} (h:nH ops X Y olds n a) (d:Nat) (e:setB ops n d=false:=by kernel_rfl) (e':olds.contains d=true:=by kernel_rfl):a.eval (.tmp d)=Y d:=h.old d e e'
def BR (X:Nat→Value) (o:Oper) (v:Value):Prop:=match o.dst with |some d=>v=X d |none=>True
def ig (P:Program) (w0:World) (post:Value→Prop) (ρ:Operand→Value) (o:Oper):Prop:=
 ∃v,post v∧∀q:After w0,Oper.quietUpon P (fun w'=>∃q:After w0,w'=q.to) q.to v ((execOp ρ o).run P q.to)
theorem rY (ops:Array Oper) (n d:Nat):setB ops (n+1) d=(setB ops n d || match ops[n]? with |some p=>decide (p.dst=some d) |none=>false):=by
 unfold setB;rw[List.range_succ,List.any_append];simp
section
variable {P:Program} {w:World}
theorem l9.step {ops:Array Oper} {X:Nat→Value} {a0 a:Act} {n:Nat} {o:Oper} {v:Value} (h:l9 ops X a0 n a) (ho:ops[n]? =some o) (hf:Gp ops a0.tmps.size=true) (hv:BR X o v):l9 ops X a0 (n+1) (a.put o.dst v):=by
 refine⟨by rw[put_defers];exact h.defers,by rw[iy];exact h.size,fun d hd=> ?_,fun d hd=> ?_⟩
 ·by_cases he:o.dst=some d
  ·have hlt:d<a.tmps.size:=by
    rw[h.size]
    unfold Gp at hf
    rw[Array.all_eq_true] at hf
    obtain⟨hn,rfl⟩:=Array.getElem?_eq_some_iff.1 ho
    have:=hf n hn
    rw[he] at this
    simpa using this
   rw[he]
   refine(bf a d v hlt).trans ?_
   unfold BR at hv
   rw[he] at hv
   exact hv
  ·refine(aN a o.dst d v he).trans (h.slot d ?_)
   rw[rY,ho] at hd
   simpa[he] using hd
 ·rw[rY,ho] at hd
  simp only[Bool.or_eq_false_iff,decide_eq_false_iff_not] at hd
  exact(aN a o.dst d v hd.2).trans (h.old d hd.1)
theorem CP {X:Nat→Value} {a0 a:Act} {l:List Oper} {n:Nat} {G:Prop} (hl:∀j,([]:List Oper)[j]? =l.toArray[n+j]?) (hk:l9 l.toArray X a0 n a) (hend:dA l.toArray a0 a→(∀d,gB l.toArray d=false→a.eval (.tmp d)=X d)→G):G:=by
 have hn:l.length≤n:=by
  have:=hl 0
  simp only[List.getElem?_nil,Nat.add_zero] at this
  have:=Array.getElem?_eq_none_iff.1 this.symm
  simpa using this
 have hset:∀d,setB l.toArray n d= !gB l.toArray d:=by
  intro d
  rw[Bool.eq_iff_iff]
  unfold setB gB
  rw[List.any_eq_true,Bool.not_eq_true',Array.all_eq_false]
  constructor
  ·rintro⟨j,_,hj⟩
   split at hj
   ·rename_i p hp
    obtain⟨hlt,he⟩:=Array.getElem?_eq_some_iff.1 hp
    exact⟨j,hlt,by rw[he];simpa using hj⟩
   ·exact absurd hj AP
  ·rintro⟨j,hlt,hj⟩
   refine⟨j,List.mem_range.2 (by simp at hlt;omega), ?_⟩
   rw[Array.getElem?_eq_getElem hlt]
   simpa using hj
 refine hend ⟨hk.defers,hk.size,fun d hd=>hk.old d ?_⟩ fun d hd=>hk.slot d ?_
 ·rw[hset]
  simp only[Bool.not_eq_false']
  unfold gB
  rw[Array.all_eq_true]
  intro j hj
  simpa using hd j _ (Array.getElem?_eq_getElem hj)
 ·rw[hset,hd];rfl
theorem jH {id:Nat} {Q:Exit→Act→World→Prop} {a0:Act} {l:List Oper} (X Y:Nat→Value) (olds:List Nat) (hm:P.follows .mixedOrders=true) (hB:Region.lexB .any l.toArray=true) (hf:Gp l.toArray a0.tmps.size=true) (hY:rQ a0 Y olds)
 (hop:bJ (fun n o=>∀a,nH l.toArray X Y olds n a→(Wanted l.toArray o a∧ig P w (BR X o) a.eval o)∨(Region.wanted o (yielded l.toArray a.tmps)=false∧BR X o undef)) l 0)
 (hend:∀a (q:After w),dA l.toArray a0 a→(∀d,gB l.toArray d=false→a.eval (.tmp d)=X d)→Q .normal a q.to):(Code.region id l.toArray true).wp P Q a0 w:=by
 refine wp_region_quiet (C:=fun w'=>∃q:After w,w'=q.to) hm hB ⟨⟨_,(Below.refl _ w).drew⟩,rfl⟩ ?_
 have key:∀(l2:List Oper) (n:Nat) (a:Act),(∀j,l2[j]? =l.toArray[n+j]?)→l9 l.toArray X a0 n a→bJ (fun n o=>∀a,nH l.toArray X Y olds n a→(Wanted l.toArray o a∧ig P w (BR X o) a.eval o)∨(Region.wanted o (yielded l.toArray a.tmps)=false∧BR X o undef)) l2 n→
  wpQuiet P l.toArray (fun w'=>∃q:After w,w'=q.to) (fun a'=>∀w',(∃q:After w,w'=q.to)→Q .normal a' w') l2 a:=by
  intro l2
  induction l2 with
  |
   nil=>
   intro n a hl hk _
   refine wpQuiet_nil ?_
   rintro _ ⟨q,rfl⟩
   exact CP hl hk (hend a q)
  |
   cons o l2 ih=>
   intro n a hl hk hall
   have ho:l.toArray[n]? =some o:=by simpa using (hl 0).symm
   have hl2:∀j,l2[j]? =l.toArray[n+1+j]? :=fun j=>by have:=hl (j+1);simpa[Nat.add_assoc,Nat.add_comm 1 j] using this
   obtain⟨h1,h2⟩:=hall
   refine wpQuiet_step fun K hK=> ?_
   rcases h1 a ⟨hk.slot,fun d hd ho=>(hk.old d hd).trans (hY.get d ho)⟩ with⟨hw,v,hv,hq⟩ |⟨hw,hv⟩
   ·rw[if_pos (show Region.wanted o (yielded l.toArray a.tmps)=true from hw)]
    refine⟨v, ?_,hK _ (ih (n+1) _ hl2 (hk.step ho hf hv) h2)⟩
    rintro _ ⟨q,rfl⟩
    exact hq q
   ·rw[if_neg (by rw[hw];decide)]
    exact hK _ (ih (n+1) _ hl2 (hk.step ho hf hv) h2)
 exact key l 0 a0 (fun j=>by simp) ⟨rfl,rfl,fun d hd=>by simp[setB] at hd,fun _ _=>rfl⟩ hop
end
theorem aC {ops:Array Oper} {o:Oper} {a:Act} (d:Nat) (b:Bool) (h:mV ops o d b=true) (hv:a.eval (.tmp d)=undef):Region.wanted o (yielded ops a.tmps)=false:=by
 unfold Region.wanted
 unfold mV at h
 split at h
 ·exact absurd h AP
 ·rename_i j c hg
  rw[hg]
  simp only[Bool.and_eq_true,decide_eq_true_eq] at h
  obtain⟨rfl,h⟩:=h
  split at h
  ·rename_i p hp
   simp only[decide_eq_true_eq] at h
   rcases Nat.lt_or_ge d a.tmps.size with h' |h'
   ·have e:a.tmps[d]? =some undef:=by
     rw[Array.getElem?_eq_getElem h',←hv]
     simp[Act.eval,Array.getD,h']
    simp[yielded,hp,h,e,undef]
   ·have e:a.tmps[d]? =none:=Array.getElem?_eq_none h'
    simp[yielded,hp,h,e]
  ·exact absurd h AP
section
variable {P:Program} {w:World} {o:Oper} {ρ:Operand→Value} {post:Value→Prop}
theorem ql {v:Value} (hr:∀q:After w,(execOp ρ o).run P q.to= .ok (.value v) q.to) (hp:post v):ig P w post ρ o:=
 ⟨v,hp,fun q=>by rw[hr q];exact⟨rfl,rfl⟩⟩
theorem jQ (x:Operand) (h:o.op= .move x) (hp:post (ρ x)):ig P w post ρ o:=ql (v:=ρ x) (fun q=>by unfold execOp;rw[h];rfl) hp
theorem iI {T:TypeId} {k:Nat} (x:Operand) (h:o.op= .fieldAddr T x k) {p v:Value} (hx:ρ x=p) (hr:∀w,(Instr.fieldAt T p k).run P w= .ok v w) (hp:post v):ig P w post ρ o:=
 ql (fun q=>by unfold execOp;rw[h];dsimp only;rw[hx,Sem.run_bind,hr];rfl) hp
theorem jC {T:TypeId} (x:Operand) (h:o.op= .load T x) {p v:Value} (hx:ρ x=p) (hr:∀q:After w,(Instr.loadAt T p).run P q.to= .ok v q.to) (hp:post v):ig P w post ρ o:=
 ql (fun q=>by unfold execOp;rw[h];dsimp only;rw[hx,Sem.run_bind,hr];rfl) hp
theorem zI {T:TypeId} (x y:Operand) (h:o.op= .indexAddr T x y) {p q v:Value} (hx:ρ x=p) (hy:ρ y=q) (hr:∀w,(Instr.indexAt T p q).run P w= .ok v w) (hp:post v):ig P w post ρ o:=
 ql (fun q=>by unfold execOp;rw[h];dsimp only;rw[hx,hy,Sem.run_bind,hr];rfl) hp
theorem rG {op:BinOp} {ty u:TypeId} {x y:Operand} (h:o.op= .binOp op ty x y u) {v1 v2 v:Value} (hx:ρ x=v1) (hy:ρ y=v2)
 (hr:∀w,(do eqGuard op ty x y v1 v2;binOp op ty v1 v2:Sem Value).run P w= .ok v w) (hp:post v):ig P w post ρ o:=by
 refine ql (v:=v) (fun q=> ?_) hp
 unfold execOp;rw[h];dsimp only;rw[hx,hy]
 have:=hr q.to
 generalize (do eqGuard op ty x y v1 v2;binOp op ty v1 v2:Sem Value)=s at this
 rw[Sem.run_bind,this];rfl
theorem Fv {ty:TypeId} {x:Operand} (h:o.op= .unOp .not ty x) (b:Bool) (hx:ρ x= .bool b) (hp:post (.bool !b)):ig P w post ρ o:=
 ql (fun q=>by unfold execOp;rw[h];dsimp only;rw[hx];rfl) hp
theorem jK {c x y:Operand} (h:o.op= .pick c x y) (b:Bool) (hc:ρ c= .bool b) (hp:post (if b then ρ x else ρ y)):ig P w post ρ o:=
 ql (fun q=>by unfold execOp;rw[h];dsimp only;rw[hc];rfl) hp
theorem D8 {f:FuncId} {xs:Array Operand} {ts:Array TypeId} (h:o.op= .call {callee:= .value (.func f),args:=xs,argTypes:=ts}) (hf:ρ (.func f)= .func (.func f) #[] #[])
 (args:Array Value) (hcf:∀w,(callFunc f args).run P w= .ok (.enter f args) w) (ha:xs.map ρ=args) {v:Value} (hc:∀q:After w,Calls P f args q.to fun e w'=>e= .returned v∧Below q.to.heap.size q.to w') (hp:post v):ig P w post ρ o:=by
 refine⟨v,hp,fun q=> ?_⟩
 unfold execOp;rw[h];dsimp only;unfold resolve;dsimp only;rw[hf,ha]
 have e:args++ #[]=args:=by simp
 have e2:(invoke (.fn (.func f) #[]) args:Sem Next).run P q.to= .ok (.enter f args) q.to:=by
  unfold invoke;dsimp only;rw[e];exact hcf q.to
 simp only[Deferred.ofValue,Sem.run_bind,Sem.run_pure,Result.andThen,Array.empty_append,e2]
 exact⟨rfl,aJ (hc q)⟩
end
theorem iK (l:List Value) (ds:_) (k:Nat) (v:Value):Act.put ⟨l.toArray,ds⟩ (some k) v=⟨(l.set k v).toArray,ds⟩:=by
 simp[Act.put]
theorem bg {P:Program} {T:TypeId} {w:World} {p:Addr} {v:Value} (hT:∀w,(isAgg T).run P w= .ok false w) (h:w.cell? p=some v):(Instr.loadAt T (.pointer (some p))).run P w= .ok v w:=by
 unfold Instr.loadAt Instr.sureAddr loadVar
 simp[go_sem,hT,Result.andThen,h]
theorem pz {P:Program} {w:World} {p:Addr} {C:List Value} (h:∀(j:Nat) (v:Value),C[j]? =some v→w.cell? (p.add j)=some v):∀(n i:Nat) (acc:Array Value),i+n=C.length→acc.toList=C.take i→(loadCellsFrom p i n acc).run P w= .ok C.toArray w
 |
  0,i,acc,hi,ha=>by
  unfold loadCellsFrom
  have:acc=C.toArray:=by
   rw[←Array.toList_inj,ha,List.take_of_length_le AL]
  simp[this,go_sem]
 |
  n+1,i,acc,hi,ha=>by
  unfold loadCellsFrom
  have hlt:i<C.length:=by omega
  have hc:=h i C[i] (List.getElem?_eq_getElem hlt)
  have ih:=pz (P:=P) h n (i+1) (acc.push C[i]) AL (by rw[Array.toList_push,ha,List.take_succ_eq_append_getElem hlt])
  simp only[Sem.run_bind]
  have hl:(load (p.add i)).run P w= .ok C[i] w:=by simp[go_sem,hc]
  rw[hl]
  exact ih
theorem fE {P:Program} {T:TypeId} {w:World} {p:Addr} {C:List Value} {n:Nat} (hT:∀w,(isAgg T).run P w= .ok true w) (hs:∀w,(sizeOf T).run P w= .ok n w) (hn:C.length=n) (h:∀(j:Nat) (v:Value),C[j]? =some v→w.cell? (p.add j)=some v):
 (Instr.loadAt T (.pointer (some p))).run P w= .ok (.agg C.toArray) w:=by
 have:=pz (P:=P) h n 0 #[] AL AO
 unfold Instr.loadAt Instr.sureAddr loadVar loadCells
 simp[go_sem,hT,hs,Result.andThen,this]
theorem jG {P:Program} {T:TypeId} {w:World} {p:Addr} {v0 v1 v2:Value} (hT:∀w,(isAgg T).run P w= .ok true w) (hs:∀w,(sizeOf T).run P w= .ok 3 w) (h0:w.cell? p=some v0) (h1:w.cell? (p.add 1)=some v1) (h2:w.cell? (p.add 2)=some v2):
 (Instr.loadAt T (.pointer (some p))).run P w= .ok (.agg #[v0,v1,v2]) w:=fE (C:=[v0,v1,v2]) hT hs rfl fun j v hj=>by
 match j,hj with
 | 0,hj=>
  obtain rfl:v0=v:=by simpa using hj
  simpa[Addr.add] using h0
 | 1,hj=>
  obtain rfl:v1=v:=by simpa using hj
  exact h1
 | 2,hj=>
  obtain rfl:v2=v:=by simpa using hj
  exact h2
 | j+3,hj=>simp at hj
theorem Cm {P:Program} {T:TypeId} {w:World} {p:Addr} {v0 v1 v2 v3 v4:Value} (hT:∀w,(isAgg T).run P w= .ok true w) (hs:∀w,(sizeOf T).run P w= .ok 5 w) (h0:w.cell? p=some v0) (h1:w.cell? (p.add 1)=some v1) (h2:w.cell? (p.add 2)=some v2) (h3:w.cell? (p.add 3)=some v3) (h4:w.cell? (p.add 4)=some v4):
 (Instr.loadAt T (.pointer (some p))).run P w= .ok (.agg #[v0,v1,v2,v3,v4]) w:=fE (C:=[v0,v1,v2,v3,v4]) hT hs rfl fun j v hj=>by
 match j,hj with
 | 0,hj=>
  obtain rfl:v0=v:=by simpa using hj
  simpa[Addr.add] using h0
 | 1,hj=>
  obtain rfl:v1=v:=by simpa using hj
  exact h1
 | 2,hj=>
  obtain rfl:v2=v:=by simpa using hj
  exact h2
 | 3,hj=>
  obtain rfl:v3=v:=by simpa using hj
  exact h3
 | 4,hj=>
  obtain rfl:v4=v:=by simpa using hj
  exact h4
 | j+5,hj=>simp at hj
end Go.Cit
