/- Texts of the proof, one behind the other: WireAdd, WireFields, WireLaw, Box. No condition but those that each names. -/
import Derived.Test.YtlholdllibghbaaGreatG04
import Derived.Test.YtlholdllibghbaaGreatG06
import Derived.Test.YtlholdllibghbaaGreatG05
import Derived.Deep.RegionHeld3
import Derived.Deep.DrawnRows
import Derived.Outline
import Derived.Laws.IdiomStrings
import Derived.Lib.Bytealg
import Derived.Deep.MidRow
import Derived.Lib.ConvBytes
import Derived.Test.YtlholdllibghbaaGreatG00
import Derived.Deep.WholeRow
import Derived.Laws.Tables
import Derived.Test.YtlholdllibghbaaGreatKit
set_option maxRecDepth 100000
set_option maxHeartbeats 8000000
namespace Go.Proofs.YtlholdllibghbaaGreat
open Go Go.RowKit Go.Cit
attribute [local go_sem ↓] Go.wp_at_zero Go.wp_at_succ
structure Wr (base:Nat) (w:World) (b:Nat) (a:Option Addr) (l:List UInt8) (c:Nat) (e:Int):Prop where
 blk:w.heap[b]? =some (.cells #[.slice a l.length c, .bool true, .int .i64 e] 154 (0,0))
 own:Own 5 base w a l c
 ge:base≤b
 len:l.length≤65536
theorem Wr.lt {base w b a l c e} (h:Wr base w b a l c e):b<w.heap.size:=(Array.getElem?_eq_some_iff.1 h.blk).1
theorem Wr.c0 {base w b a l c e} (h:Wr base w b a l c e):w.cell? ⟨b,0,none⟩=some (.slice a l.length c):=by rw[World.cell?,h.blk];rfl
theorem Wr.c1 {base w b a l c e} (h:Wr base w b a l c e):w.cell? ⟨b,1,none⟩=some (.bool true):=by rw[World.cell?,h.blk];rfl
theorem Wr.c2 {base w b a l c e} (h:Wr base w b a l c e):w.cell? ⟨b,2,none⟩=some (.int .i64 e):=by rw[World.cell?,h.blk];rfl
theorem Wr.fr {base w b a l c e} (h:Wr base w b a l c e) (i:Nat):w.frozen? ⟨b,i,none⟩=false:=by simp[World.frozen?,h.blk]
theorem Wr.ne {base w b a l c e} (h:Wr base w b a l c e):Go.Cit.blk a≠some b:=by
 intro hb
 rcases h.own.form with⟨rfl,_,_⟩ |⟨g,cur,rfl,_,hg,_⟩
 ·simp[Go.Cit.blk] at hb
 ·simp only[Go.Cit.blk,Option.map_some,Option.some.injEq] at hb
  subst hb
  rw[h.blk] at hg
  simp at hg
theorem Wr.save {S:Nat→Prop} {base w w' b a l c e} (h:Wr base w b a l c e) (hs:Save S w w') (hb:S b) (ha:∀g,Go.Cit.blk a=some g→S g):Wr base w' b a l c e:=
 ⟨by rw[hs.block b h.lt hb];exact h.blk,h.own.save hs ha,h.ge,h.len⟩
theorem Wr.stay {base w w' b a l c e} (h:Wr base w b a l c e) (hs:Below w.heap.size w w'):Wr base w' b a l c e:=h.save (Save.of (S:=fun _=>True) hs) trivial (fun _ _=>trivial)
def Off (b:Nat) (a:Option Addr) (k:Nat):Prop:=k≠b∧some k≠Go.Cit.blk a
theorem MO (b:Nat) (W:World):(Instr.fieldAt 154 (.pointer (some ⟨b,0,none⟩)) 0).run Tryz.prog W= .ok (.pointer (some ⟨b,0,none⟩)) W:=by kernel_rfl
theorem vM (b:Nat) (w:World) (ρ:Operand→Value) (x:Operand) (d:Option Tmp) (ty:TypeId) (ps:String) (gd:Option (Nat×Bool)) {af} (e:ρ x= .pointer (some ⟨b,0,none⟩)):
 (execOp ρ {dst:=d,op:=Op.fieldAddr 154 x 0,type:=ty,pos:=ps,after:=af,guard:=gd}).run Tryz.prog w= .ok (.value (.pointer (some ⟨b,0,none⟩))) w:=by
 unfold execOp
 dsimp only
 rw[e,Sem.run_bind,MO]
 rfl
theorem qx (w:World):
 Calls Tryz.prog 83 #[] w fun e w'=>e= .returned (.pointer (some ⟨w.heap.size,0,none⟩))∧Wr w.heap.size w' w.heap.size none [] 0 0∧Below w.heap.size w w':=by
 go_enter Tryz.func83,Tryz.ntmps83
 go_wp2_with fail
 go_ret
 exact⟨rfl,⟨heap_alloc_new w _,Own.nil _ _ _,Nat.le_refl _,by simp⟩,(Below.refl _ _).alloc (Nat.le_refl _) _⟩
theorem zH {base w b a l c e} (h:Wr base w b a l c e):
 Calls Tryz.prog 109 #[.pointer (some ⟨b,0,none⟩)] w fun e w'=>e= .returned (.bool false)∧w=w':=by
 have c1:=h.c1
 go_enter Tryz.func109,Tryz.ntmps109
 go_wp2_with fail
 go_ret
 exact⟨rfl,rfl⟩
theorem uf {base w b a l c} (h:Wr base w b a l c 0):
 Calls Tryz.prog 49 #[.pointer (some ⟨b,0,none⟩)] w fun e w'=>∃a' X cp,Hid (X=l)∧e= .returned (.tuple #[.slice a' X.length cp, .int .i64 0])∧Mine w.heap.size w' a' X cp∧Below w.heap.size w w':=by
 have c0:=h.c0
 have c2:=h.c2
 have hl:=h.len
 go_enter Tryz.func49,Tryz.ntmps49
 go_wp2_with fail
 refine(zH h).mono ?_
 rintro e w1 ⟨rfl,rfl⟩
 go_wp2_with fail
 refine(UG (uq _ _ h.own.isRow AL)).mono ?_
 rintro e w2 ⟨a2,X,c2',HX,rfl,hm2,hb2⟩
 go_wp2_with fail
 go_ret2
 exact⟨a2,X,c2',HX,rfl,hm2,hb2⟩
def Es (l:List UInt8):Nat:=min l.length 65537
def qj (ls:List (List UInt8)):Nat:=(ls.map Es).sum
theorem Ja (ls:List (List UInt8)) (k:Nat) (h:k<ls.length):qj (ls.take (k+1))=qj (ls.take k)+Es ls[k]:=by
 rw[qj,qj,List.take_succ_eq_append_getElem h,List.map_append,List.sum_append];simp
theorem zn:∀(ls:List (List UInt8)),qj ls≤ls.flatten.length∧(qj ls≤65536→qj ls=ls.flatten.length)
 | []=>by simp[qj]
 |
  x::ls=>by
  obtain⟨h1,h2⟩:=zn ls
  simp only[qj,List.map_cons,List.sum_cons,List.flatten_cons,List.length_append] at h1 h2 ⊢
  have h3:Es x≤x.length:=Nat.min_le_left _ _
  have h4:Es x≤65536→Es x=x.length:=by unfold Es;omega
  constructor
  ·omega
  ·intro h;have:=h2 AL;have:=h4 AL;omega
def LY (base:Nat) (w:World) (b:Nat) (a:Option Addr) (l F:List UInt8) (c g n m:Nat):Nat→Value→World→Prop
 | 46,v,_=>v= .slice a l.length c
 | 47,v,_=>v= .slice (some ⟨g,0,none⟩) m n
 | 48,v,wx=>∃a2 c2,v= .slice a2 F.length c2∧Mine w.heap.size wx a2 F c2
 | 49,v,wx=>∃a3 c3,v= .slice a3 (l++F).length c3∧Own 5 base wx a3 (l++F) c3∧iI w.heap.size a a3
 | _,v,_=>v= .pointer (some ⟨b,0,none⟩)
def OY (base:Nat) (w:World) (b:Nat) (a:Option Addr) (l F:List UInt8) (c:Nat) (δ:Nat→Bool) (wx:World):Prop:=
 Save (Off b a) w wx∧(δ 6=false→wx.heap=w.heap)∧(δ 7=false→Own 5 base wx a l c)∧(δ 10=false→wx.heap[b]? =w.heap[b]?)∧
  (δ 10=true→∃a3 c3,wx.heap[b]? =some (.cells #[.slice a3 (l++F).length c3, .bool true, .int .i64 0] 154 (0,0))∧Own 5 base wx a3 (l++F) c3∧iI w.heap.size a a3)
def KJ (b:Nat) (a:Option Addr) (i:Nat) (wx w':World):Prop:=if i=7 then Save (Off b a) wx w' else Save (· ≠b) wx w'
theorem jP {base w b a l F c δ wx} (i:Nat) (h:OY base w b a l F c δ wx) (h6:i≠6) (h7:i≠7) (h10:i≠10):OY base w b a l F c (upd δ i) wx:=by
 unfold OY at h ⊢
 rw[aA δ h6,aA δ h7,aA δ h10];exact h
theorem jR {b a} (i:Nat) (wx:World):KJ b a i wx wx:=by unfold KJ;split<;>exact Save.refl _ _
theorem own_ne {E base w a l cap b} {C:Array Value} {T:TypeId} {fr:Nat×Nat} (h:Own E base w a l cap) (hb:w.heap[b]? =some (.cells C T fr)) (hT:E≠T):Go.Cit.blk a≠some b:=by
 intro he
 rcases h.form with⟨rfl,_,_⟩ |⟨g,cur,rfl,_,hg,_⟩
 ·simp[Go.Cit.blk] at he
 ·simp only[Go.Cit.blk,Option.map_some,Option.some.injEq] at he
  subst he
  rw[hb] at hg
  injection hg with hg
  injection hg with h1 h2
  exact hT h2.symm
theorem IZ {w w':World} {p:Addr} {vs:List Value} {ls:List (List UInt8)} (h:Lib.PartsAt w p vs ls) (hh:w'.heap=w.heap):Lib.PartsAt w' p vs ls:=by
 have hce:∀q,w'.cell? q=w.cell? q:=fun q=>by simp[World.cell?,hh]
 obtain⟨x,y,z⟩:=h
 refine⟨x,fun i v hv=>(hce _).trans (y i v hv),fun i v l hv hl=> ?_⟩
 obtain⟨q,cap,e,h1,h2⟩:=z i v l hv hl
 exact⟨q,cap,e,h1,fun a ha j x hx=>(hce _).trans (h2 a ha j x hx)⟩
theorem LX {base w b a l F c g n m d v wx w'} (h:LY base w b a l F c g n m d v wx) (h48:d≠48) (h49:d≠49):LY base w b a l F c g n m d v w':=by
 unfold LY at h ⊢
 split<;>simp_all
theorem L8 {base w b a l F c g n m d v wx w' i e δ} (hw:Wr base w b a l c e) (hc:OY base w b a l F c δ wx) (hG:KJ b a i wx w') (h:LY base w b a l F c g n m d v wx) (h7:d=49→i≠7) (h10:d=49→δ 10=false∨i≠10):LY base w b a l F c g n m d v w':=by
 by_cases h48:d=48
 ·subst h48
  obtain⟨a2,c2,hv,hm⟩:=h
  have ha:∀k,Go.Cit.blk a=some k→k<w.heap.size:=fun k hk=>(hw.own.aK hk).2
  have hs:Save (Off b a) wx w':=by
   unfold KJ at hG
   split at hG
   ·exact hG
   ·exact hG.less (fun k _ hk=>hk.1)
  refine⟨a2,c2,hv,hm.save hs (fun k hk=> ?_)⟩
  have:=hm.new k hk
  exact⟨by have:=hw.lt;omega,fun he=>by have:=ha k he.symm;omega⟩
 by_cases h49:d=49
 ·subst h49
  obtain⟨a3,c3,hv,ho,hn⟩:=h
  unfold KJ at hG
  rw[if_neg (h7 rfl)] at hG
  refine⟨a3,c3,hv,ho.save hG (fun k hk=> ?_),hn⟩
  rintro rfl
  cases hd:δ 10
  ·have:=hc.2.2.2.1 hd
   exact own_ne ho (this.trans hw.blk) AP hk
  ·obtain⟨_,_,hb,_⟩:=hc.2.2.2.2 hd
   exact own_ne ho hb AP hk
 exact LX h h48 h49
theorem Ai {base w b a l c} (h:Wr base w b a l c 0) (g n:Nat) (vs:List Value) (ls:List (List UInt8)) (hP:Lib.PartsAt w ⟨g,0,none⟩ vs ls) (hcap:ls.length≤n) (hn:ls.length≤10) (hne:ls.flatten≠ []) (hroom:l.length+ls.flatten.length≤65536) (hbase:base≤w.heap.size):
 Calls Tryz.prog 108 #[.pointer (some ⟨b,0,none⟩), .slice (some ⟨g,0,none⟩) ls.length n] w fun e w'=>∃a' X c',Hid (X=l++ls.flatten)∧e= .returned (.pointer (some ⟨b,0,none⟩))∧Wr base w' b a' X c' 0∧Save (Off b a) w w'∧iI w.heap.size a a':=by
 have c0:=h.c0
 have c2:=h.c2
 obtain⟨F,HF⟩:=AU ls.flatten
 have hF1:Hid (F≠ []):=by rw[Hid,HF.o];exact hne
 have hF2:l.length+F.length≤65536:=by rw[HF.o];exact hroom
 have hPd:Lib.PartsAt w.drew ⟨g,0,none⟩ vs ls:=by obtain⟨x,y,z⟩:=hP;exact⟨x,y,z⟩
 have hcat:=kQ w.drew g 0 n vs ls hPd hcap (by rw[←HF.o];omega) AL
 rw[←HF.o] at hcat
 have HR:Hid (∀k,k≤ls.length→qj (ls.take k)≤F.length):=by
  intro k hk
  rw[HF.o]
  refine Nat.le_trans (zn _).1 ?_
  have:=congrArg (fun z=>(List.flatten z).length) (List.take_append_drop k ls)
  simp only[List.flatten_append,List.length_append] at this
  omega
 clear hne hroom
 go_enter Tryz.func108,Tryz.ntmps108
 go_wp2_with fail
 refine(zH h).mono ?_
 rintro e w1 ⟨rfl,rfl⟩
 go_wp2_with fail
 go_loop [5,7,26] (fun room it i=>∃k:Nat,Hid (k≤ls.length)∧i= .int .i64 k∧∃r:Nat,Hid (r=qj (ls.take k))∧room= .int .i64 (65536-(l.length:Int)-(r:Int))) (fun _ _ i=>ls.length-(intOf i).toNat)
 case atStart=>exact⟨0,Nat.zero_le _,rfl,0,rfl,by simp⟩
 case round=>
  obtain⟨k,hk,rfl,r,hr,rfl⟩:=hrel
  have hl:=h.len
  have hr0:r≤F.length:=by rw[hr.o];exact HR.o k hk.o
  by_cases hlt:k<ls.length
  ·obtain⟨p,cp,l',hl',hcell,_,_⟩:=hP.get k hlt
   have hcell':w.cell? ⟨g,k,none⟩=some (.slice p l'.length cp):=by
    rw[←hcell];unfold Addr.add;split<;>simp_all
   have hm:Hid (r+Es l'=qj (ls.take (k+1))):=by
    rw[Hid,Ja ls k hlt,←hr.o]
    have:ls[k]=l':=by rw[List.getElem?_eq_getElem hlt] at hl';exact Option.some.inj hl'
    rw[this]
   clear hl' hcell
   go_wp2_with fail
   go_round
   case rel=>exact⟨k+1,hlt,by go_num,r+Es l',hm.o,by simp only[Es];congr 1;omega⟩
   case measure=>simp[intOf];omega
  ·have hk2:ls.take k=ls:=List.take_of_length_le AL
   have h0:r≤65536-l.length:=by omega
   have c0':∀m,(w.drewN m).cell? ⟨b,0,none⟩=some (.slice a l.length c):=fun _=>c0
   go_wp2_with fail
   have hbk:=h.blk
   have hF4:F≠ []:=hF1.o
   refine jv (OY base w b a l F c) (KJ b a) (LY base w b a l F c g n ls.length) AB AB ?_ ?_ ?_ ?_
   ·intro w' hb hh
    exact⟨Save.of hb,fun _=>hh,fun _=>h.own.stay hb,fun _=>by rw[hh],fun hx=>absurd hx AP⟩
   ·intro δ i j o v wx w' ho hij _ hj hi hc hG hT
    rcases hd:o.dst with _ |d
    ·exact eU hd _ _
    ·rw[fZ hd] at hT ⊢
     refine L8 h hc hG hT (fun h49=> ?_) (fun h49=> ?_)
     ·subst h49
      have:=Dl (d:=49) (j:=7) AB ho hd
      omega
     ·subst h49
      by_cases h10:i=10
      ·subst h10;exact .inl hi
      ·exact .inr h10
   ·repeat' (first |exact aU |refine aI ?_ ?_)
    all_goals intro δ wa wx hk
    ·exact⟨ah rfl,eH (.tmp 0) rfl ⟨jR _ wx,jP _ hk.inv AP AP AP,hk.o 0⟩⟩
    ·exact⟨ah rfl,eH (.tmp 0) rfl ⟨jR _ wx,jP _ hk.inv AP AP AP,hk.o 0⟩⟩
    ·exact⟨ah rfl,Bh (.tmp 43) rfl (hk.s 43) ⟨jR _ wx,jP _ hk.inv AP AP AP,rfl⟩⟩
    ·refine⟨ah rfl, ?_⟩
     have e44:wa.eval (.tmp 44)= .pointer (some ⟨b,0,none⟩):=hk.s 44
     rw[vM _ _ _ _ _ _ _ _ e44]
     exact⟨jR _ wx,jP _ hk.inv AP AP AP,rfl⟩
    ·have h10:=hk.closed.yet 11 10 4 AB hk.yet
     have hcell:wx.cell? ⟨b,0,none⟩=some (.slice a l.length c):=(World.cell?_of_block (a:=⟨b,0,none⟩) (hk.inv.2.2.2.1 h10)).trans c0
     exact⟨ah rfl,bg (.tmp 45) rfl (hk.s 45) (by simp[go_sem,hcell]) ⟨jR _ wx,jP _ hk.inv AP AP AP,rfl⟩⟩
    ·exact⟨ah rfl,eH (.tmp 1) rfl ⟨jR _ wx,jP _ hk.inv AP AP AP,hk.o 1⟩⟩
    ·have h7:=hk.closed.yet 11 7 6 AB hk.yet
     have h10:=hk.closed.yet 11 10 6 AB hk.yet
     obtain⟨i1,i2,i3,i4,i5⟩:=hk.inv
     have hh:=i2 hk.yet
     have hcat:=kQ wx g 0 n vs ls (IZ hP hh) hcap (by rw[←HF.o];omega) AL
     rw[←HF.o] at hcat
     refine⟨ah rfl,bJ rfl (hk.fn _) #[.slice (some ⟨g,0,none⟩) ls.length n] (fun w=>AB) (by simp[show wa.eval (.tmp 47)=_ from hk.s 47]) (hcat.mono ?_)⟩
     rintro e w' ⟨a2,c2',he,hm,hb⟩
     refine⟨_,he, ?_,⟨i1.trans (Save.of hb),fun hx=>absurd hx (by rw[upd_same];decide),fun _=>(i3 h7).stay hb,fun _=>(hb.block b (by rw[hh];exact h.lt)).trans (i4 h10),fun hx=> ?_⟩,a2,c2',rfl, ?_⟩
     ·exact Save.of hb
     ·rw[aA δ AP,h10] at hx;exact absurd hx AP
     ·rw[show wx.heap.size=w.heap.size by rw[hh]] at hm;exact hm
    ·have h10:=hk.closed.yet 11 10 7 AB hk.yet
     obtain⟨i1,i2,i3,i4,i5⟩:=hk.inv
     obtain⟨a2,c2',hv2,hm2⟩:=hk.s 48
     refine⟨ah rfl,MX bt (.tmp 46) (.tmp 48) rfl (i3 hk.yet) hm2.row hF4 AL (Nat.le_trans hbase i1.size) (hk.s 46) hv2 ?_⟩
     intro a3 c3 w' hown3 hgr3 hnear
     have hs3:Save (Off b a) wx w':=(Save.grown hgr3).less (fun k _ hk=>hk.2)
     have hb3:w'.heap[b]? =wx.heap[b]? :=hgr3.block b (Nat.lt_of_lt_of_le h.lt i1.size) (Ne.symm h.ne)
     refine⟨hs3,⟨i1.trans hs3,fun hx=> ?_,fun hx=>absurd hx (by rw[upd_same];decide),fun _=>hb3.trans (i4 h10),fun hx=> ?_⟩,a3,c3,rfl,hown3,fun k hk=> ?_⟩
     ·rw[hk.next.needs 11 7 6 AB (upd_same _ _)] at hx;exact absurd hx AP
     ·rw[aA δ AP,h10] at hx;exact absurd hx AP
     ·rcases hnear k hk with h1 |h1
      ·exact .inl h1
      ·exact .inr (Nat.le_trans i1.size h1)
    ·exact⟨ah rfl,Bh (.tmp 42) rfl (hk.s 42) ⟨jR _ wx,jP _ hk.inv AP AP AP,rfl⟩⟩
    ·refine⟨ah rfl, ?_⟩
     have e44:wa.eval (.tmp 50)= .pointer (some ⟨b,0,none⟩):=hk.s 50
     rw[vM _ _ _ _ _ _ _ _ e44]
     exact⟨jR _ wx,jP _ hk.inv AP AP AP,rfl⟩
    ·obtain⟨i1,i2,i3,i4,i5⟩:=hk.inv
     obtain⟨a3,c3,hv3,hown3,hn3⟩:=hk.s 49
     have hb:=(i4 hk.yet).trans hbk
     have hcell:wx.cell? ⟨b,0,none⟩=some (.slice a l.length c):=by rw[World.cell?,hb];rfl
     have hfr:wx.frozen? ⟨b,0,none⟩=false:=by simp[World.frozen?,hb]
     refine⟨ah rfl,zu (.tmp 51) (.tmp 49) rfl (hk.s 51) hv3 (w':=wx.setCell ⟨b,0,none⟩ (.slice a3 (l++F).length c3)) (by simp[go_sem,hcell,hfr]) ?_⟩
     have hs:Save (· ≠b) wx (wx.setCell ⟨b,0,none⟩ (.slice a3 (l++F).length c3)):=Save.set
     refine⟨hs,⟨i1.trans (hs.less fun k _ hk=>hk.1),fun hx=> ?_,fun hx=> ?_,fun hx=>absurd hx (by rw[upd_same];decide),fun _=>⟨a3,c3, ?_, ?_,hn3⟩⟩,eU rfl _ _⟩
     ·rw[hk.next.needs 11 10 6 AB (upd_same _ _)] at hx;exact absurd hx AP
     ·rw[hk.next.needs 11 10 7 AB (upd_same _ _)] at hx;exact absurd hx AP
     ·simp[World.setCell,Array.getElem?_modify,hb]
     ·exact hown3.save hs (fun k hk hkb=>own_ne hown3 hb AP (hk.trans (by rw[hkb])))
   ·intro δ wa wx hall hc hsame hT
    obtain⟨a3,c3,hb3,hown3,hn3⟩:=hc.2.2.2.2 (hall 10 AP)
    have hS:=hc.1
    obtain⟨a2,c2',h48,_⟩:=hT 48 AB
    obtain⟨a4,c4,h49,_⟩:=hT 49 AB
    have he:=dn hsame [42,43,44,45,46,47,48,49,50,51] AB
    simp only[List.foldl_cons,List.foldl_nil] at he
    rw[show wa.eval (.tmp 42)=_ from hT 42 AB,show wa.eval (.tmp 43)=_ from hT 43 AB,show wa.eval (.tmp 44)=_ from hT 44 AB,show wa.eval (.tmp 45)=_ from hT 45 AB,show wa.eval (.tmp 46)=_ from hT 46 AB,show wa.eval (.tmp 47)=_ from hT 47 AB,h48,h49,show wa.eval (.tmp 50)=_ from hT 50 AB,show wa.eval (.tmp 51)=_ from hT 51 AB] at he
    subst he
    clear hT hc hall hsame
    go_wp2_with fail
    go_ret
    exact⟨a3,l++F,c3,by rw[Hid,HF.o],rfl,⟨hb3,hown3,h.ge,by rw[List.length_append];exact hF2⟩,hS,hn3⟩
open Go Go.RowKit Go.Cit
def Added (base:Nat) (w:World) (b:Nat) (a:Option Addr) (Y:List UInt8) (e:Ending) (w':World):Prop:=
 ∃a' X c',Hid (X=Y)∧e= .returned (.pointer (some ⟨b,0,none⟩))∧Wr base w' b a' X c' 0∧Save (Off b a) w w'∧iI w.heap.size a a'
theorem Added.from {base w0 w b a Y e w'} (hb:Below w0.heap.size w0 w) (h:Added base w b a Y e w'):Added base w0 b a Y e w':=by
 obtain⟨a',X,c',h1,h2,h3,h4,h5⟩:=h
 exact⟨a',X,c',h1,h2,h3,(Save.of hb).trans h4,fun g hg=>(h5 g hg).imp id (fun h=>Nat.le_trans hb.size h)⟩
theorem uy {base w b a l c} (h:Wr base w b a l c 0) (hbase:base≤w.heap.size) (t:TypeId) {a1:Option Addr} {m:List UInt8} {c1:Nat} (r1:Row w a1 m c1) (hne:m≠ []) (hroom:l.length+m.length≤65536):
 Calls Tryz.prog 108 #[.pointer (some ⟨b,0,none⟩), .slice (some ⟨w.heap.size,0,none⟩) 1 1] (w.alloc (.cells #[.slice a1 m.length c1] t)) (Added base w b a (l++m)):=by
 have hP:=oN w [.slice a1 m.length c1] [m] t rfl (by
  intro i v l hv hl
  match i with
  | 0=>simp at hv hl;subst hv hl;exact dF r1
  | i+1=>simp at hv)
 have hb:Below w.heap.size w (w.alloc (.cells #[.slice a1 m.length c1] t)):=(Below.refl _ _).alloc (Nat.le_refl _) _
 have hk:=Ai (h.stay hb) w.heap.size 1 _ _ hP AO AO (by simpa using hne) (by simpa using hroom) (Nat.le_trans hbase hb.size)
 simp only[List.flatten_cons,List.flatten_nil,List.append_nil] at hk
 exact hk.mono fun e w' hh=>Added.from hb hh
theorem Jb {base w b a l c} (h:Wr base w b a l c 0) (hbase:base≤w.heap.size) (t:TypeId) {a1 a2:Option Addr} {m n:List UInt8} {c1 c2:Nat} (r1:Row w a1 m c1) (r2:Row w a2 n c2) (hne:m≠ []) (hroom:l.length+m.length+n.length≤65536):
 Calls Tryz.prog 108 #[.pointer (some ⟨b,0,none⟩), .slice (some ⟨w.heap.size,0,none⟩) 2 2] (w.alloc (.cells #[.slice a1 m.length c1, .slice a2 n.length c2] t)) (Added base w b a (l++(m++n))):=by
 have hP:=oN w [.slice a1 m.length c1, .slice a2 n.length c2] [m,n] t rfl (by
  intro i v l hv hl
  match i with
  | 0=>simp at hv hl;subst hv hl;exact dF r1
  | 1=>simp at hv hl;subst hv hl;exact dF r2
  | i+2=>simp at hv)
 have hb:Below w.heap.size w (w.alloc (.cells #[.slice a1 m.length c1, .slice a2 n.length c2] t)):=(Below.refl _ _).alloc (Nat.le_refl _) _
 have hk:=Ai (h.stay hb) w.heap.size 2 _ _ hP AO AO (by simp[hne]) (by simp;omega) (Nat.le_trans hbase hb.size)
 simp only[List.flatten_cons,List.flatten_nil,List.append_nil] at hk
 exact hk.mono fun e w' hh=>Added.from hb hh
theorem xH {base w b a l c} (h:Wr base w b a l c 0) (hbase:base≤w.heap.size) (x:UInt8) (hroom:l.length+1≤65536):
 Calls Tryz.prog 88 #[.pointer (some ⟨b,0,none⟩),vb x] w (Added base w b a (l++ [x])):=by
 have hb:Below w.heap.size w (w.alloc (.cells #[vb x] 5)):=(Below.refl _ _).alloc (Nat.le_refl _) _
 have hk:=uy (h.stay hb) (Nat.le_trans hbase hb.size) 40 (wo w _ 5 (0,0) [x] rfl AO) AO (by simpa using hroom)
 rw[show([x]:List UInt8).length=1 from rfl,show(w.alloc (.cells #[vb x] 5)).heap.size=w.heap.size+1 by simp] at hk
 go_enter Tryz.func88,Tryz.ntmps88
 go_wp2_with fail
 refine Calls.mono hk ?_
 rintro e w' hh
 obtain⟨a',X,c',h1,rfl,h3⟩:=Added.from hb hh
 go_wp2_with fail
 go_ret
 exact⟨a',X,c',h1,rfl,h3⟩
theorem dR {base w b a l c} (h:Wr base w b a l c 0) (hbase:base≤w.heap.size) (n:Int) (hroom:l.length+8≤65536):
 Calls Tryz.prog 84 #[.pointer (some ⟨b,0,none⟩), .int .i64 n] w (Added base w b a (l++rowB (iH n) 8)):=by
 have hq:IntKind.u64.wrap n=((iH n).toNat:Int):=by rw[dI,lD]
 go_enter Tryz.func84,Tryz.ntmps84
 go_wp2_with fail
 refine(TA (aB _ _) (qN _ _)).mono ?_
 rintro e w1 ⟨a1,X,c1,HX,rfl,hm1,hb1⟩
 have hX:Hid (X.length=8):=by rw[Hid,HX.o,aB]
 have hk:=uy (h.stay hb1) (Nat.le_trans hbase hb1.size) 40 hm1.row (by intro h0;rw[h0] at hX;exact absurd hX.o AP) (by rw[hX.o];exact hroom)
 go_wp2_with fail
 refine Calls.mono hk ?_
 rintro e w' hh
 obtain⟨a',Y,c',h1,rfl,h3⟩:=Added.from hb1 hh
 go_wp2_with fail
 go_ret
 exact⟨a',Y,c',by rw[Hid,h1.o,HX.o],rfl,h3⟩
def iK (is:Bool):List UInt8:=[if is then 1 else 0]
theorem Hw {base w b a l c} (h:Wr base w b a l c 0) (hbase:base≤w.heap.size) (is:Bool) (hroom:l.length+1≤65536):
 Calls Tryz.prog 87 #[.pointer (some ⟨b,0,none⟩), .bool is] w (Added base w b a (l++iK is)):=by
 go_enter Tryz.func87,Tryz.ntmps87
 cases is
 ·go_wp2_with fail
  have hk:=xH h hbase 0 hroom
  refine Calls.mono hk ?_
  rintro e w' ⟨a',X,c',h1,rfl,h3⟩
  go_wp2_with fail
  go_ret
  exact⟨a',X,c',h1,rfl,h3⟩
 ·go_wp2_with fail
  have hk:=xH h hbase 1 hroom
  refine Calls.mono hk ?_
  rintro e w' ⟨a',X,c',h1,rfl,h3⟩
  go_wp2_with fail
  go_ret
  exact⟨a',X,c',h1,rfl,h3⟩
def kC (m:List UInt8):List UInt8:=rowB (lN (EK m.length)) 4++m
theorem bn (m:List UInt8):(kC m).length=m.length+4:=by rw[kC,List.length_append,aB,Nat.add_comm]
theorem vX {base w b a l c} (h:Wr base w b a l c 0) (hbase:base≤w.heap.size) {a1:Option Addr} {m:List UInt8} {c1:Nat} (r1:Row w a1 m c1) (hroom:l.length+4+m.length≤65536):
 Calls Tryz.prog 89 #[.pointer (some ⟨b,0,none⟩), .slice a1 m.length c1] w (Added base w b a (l++kC m)):=by
 have hq:IntKind.u32.wrap (m.length:Int)=((EK m.length).toNat:Int):=by rw[fJ,zC]
 go_enter Tryz.func89,Tryz.ntmps89
 go_wp2_with fail
 refine(TA (aB _ _) (xW _ (EK m.length))).mono ?_
 rintro e w1 ⟨a2,X,c2,HX,rfl,hm1,hb1⟩
 have hX:Hid (X.length=4):=by rw[Hid,HX.o,aB]
 have hk:=Jb (h.stay hb1) (Nat.le_trans hbase hb1.size) 40 hm1.row (r1.stay hb1) (by intro h0;rw[h0] at hX;exact absurd hX.o AP) (by rw[hX.o];exact hroom)
 go_wp2_with fail
 refine Calls.mono hk ?_
 rintro e w' hh
 obtain⟨a',Y,c',h1,rfl,h3⟩:=Added.from hb1 hh
 go_wp2_with fail
 go_ret
 exact⟨a',Y,c',by rw[Hid,h1.o,HX.o];rfl,rfl,h3⟩
theorem zG {base w b a l c} (h:Wr base w b a l c 0) (hbase:base≤w.heap.size) (t:List UInt8) (ht:t.length=32) (hroom:l.length+32≤65536):
 Calls Tryz.prog 48 #[.pointer (some ⟨b,0,none⟩), .agg (t.map vb).toArray] w (Added base w b a (l++t)):=by
 have hb:Below w.heap.size w (w.alloc (.cells (t.map vb).toArray 53)):=(Below.refl _ _).alloc (Nat.le_refl _) _
 have hk:=uy (h.stay hb) (Nat.le_trans hbase hb.size) 40 (wo w _ 53 (0,0) t rfl AL) (by intro h0;simp[h0] at ht) (by rw[ht];exact hroom)
 rw[ht,show(w.alloc (.cells (t.map vb).toArray 53)).heap.size=w.heap.size+1 by simp] at hk
 clear ht
 generalize (t.map vb).toArray=T at hk hb ⊢
 go_enter Tryz.func48,Tryz.ntmps48
 go_wp2_with fail
 refine Calls.mono hk ?_
 rintro e w' hh
 obtain⟨a',Y,c',h1,rfl,h3⟩:=Added.from hb hh
 go_wp2_with fail
 go_ret
 exact⟨a',Y,c',h1,rfl,h3⟩
open Go Go.RowKit Go.Cit
structure Fl where
 what:Int
 x:UInt8
 n:Int
 is:Bool
 a:Option Addr
 l:List UInt8
 c:Nat
 t:List UInt8
def Fl.cs (f:Fl):List Value:=[.int .i64 f.what,vb f.x, .int .i64 f.n, .bool f.is, .slice f.a f.l.length f.c]++f.t.map vb
structure Fl.At (f:Fl) (w:World):Prop where
 row:Row w f.a f.l f.c
 t32:f.t.length=32
 hn: -9223372036854775808≤f.n∧f.n≤9223372036854775807
 hw: -9223372036854775808≤f.what∧f.what≤9223372036854775807
 lr:f.l.length≤140737488351232
theorem Fl.At.stay {f:Fl} {w w':World} (h:f.At w) (hb:Below w.heap.size w w'):f.At w':=⟨h.row.stay hb,h.t32,h.hn,h.hw,h.lr⟩
def Fl.bytes (f:Fl):List UInt8:=
 if f.what=0 then [f.x] else if f.what=1 then rowB (iH f.n) 8 else if f.what=2 then iK f.is else if f.what=3∨f.what=4 then kC f.l else if f.what=5 then f.t else []
theorem NT (m:List UInt8):rowB (iH (m.length:Int)) 4=rowB (lN (EK (m.length:Int))) 4:=by
 rw[←Oe (iH (m.length:Int))]
 have:sK (iH (m.length:Int))=EK (m.length:Int):=by
  apply UInt32.toNat_inj.1
  have h1:=zC (m.length:Int)
  have h2:=lD (m.length:Int)
  unfold sK
  rw[UInt64.toNat_toUInt32]
  omega
 rw[this]
def xg (B:Nat) (w:World) (L:List UInt8) (e:Ending) (w':World):Prop:=∃a X c,Hid (X=L)∧e= .returned (.slice a X.length c)∧Own 5 B w' a X c∧(X=[]→a=none)∧Below B w w'
theorem Vd {f:FuncId} {args:Array Value} {w:World} {L:List UInt8} {n:Nat} (hn:L.length=n) (h0:L≠ []) (h:Calls Tryz.prog f args w fun e w'=>∃a c,e= .returned (.slice a n c)∧Own 5 w.heap.size w' a L c∧Below w.heap.size w w'):
 Calls Tryz.prog f args w (xg w.heap.size w L):=
 h.mono fun _ _ ⟨a,c,h1,h2,h3⟩=>⟨a,L,c,rfl,by rw[hn];exact h1,h2,fun h=>absurd h h0,h3⟩
theorem dZ (w:World) (n:Int):
 Calls Tryz.prog 124 #[.int .i64 n] w (xg w.heap.size w (rowB (iH n) 8)):=by
 have hq:IntKind.u64.wrap n=((iH n).toNat:Int):=by rw[dI,lD]
 go_enter Tryz.func124,Tryz.ntmps124
 go_wp2_with fail
 refine(Vd (aB _ _) (by simp[rowB]) (lY _ (iH n) 8 AP)).mono ?_
 rintro e w1 ⟨a1,X,c1,HX,rfl,hm⟩
 go_wp2_with fail
 go_ret
 exact⟨a1,X,c1,HX,rfl,hm⟩
theorem Cb (w:World) (is:Bool):
 Calls Tryz.prog 204 #[.bool is] w (xg w.heap.size w (iK is)):=by
 have o1:=kZ w #[.int .u8 1] 5 [1] rfl AP
 have o0:=kZ w #[.int .u8 0] 5 [0] rfl AP
 go_enter Tryz.func204,Tryz.ntmps204
 cases is
 ·go_wp2_with fail
  go_ret
  exact⟨_,_,_,rfl,rfl,o0,fun h=>by simp[iK] at h,(Below.refl _ _).alloc (Nat.le_refl _) _⟩
 ·go_wp2_with fail
  go_ret
  exact⟨_,_,_,rfl,rfl,o1,fun h=>by simp[iK] at h,(Below.refl _ _).alloc (Nat.le_refl _) _⟩
theorem qO (w:World) {a0:Option Addr} {m:List UInt8} {c0:Nat} (h0:Row w a0 m c0) (hm:m.length≤400000000):
 Calls Tryz.prog 125 #[.slice a0 m.length c0] w (xg w.heap.size w (kC m)):=by
 have hq:IntKind.u64.wrap (m.length:Int)=((iH (m.length:Int)).toNat:Int):=by rw[dI,lD]
 go_enter Tryz.func125,Tryz.ntmps125
 go_wp2_with fail
 refine(lY _ (iH (m.length:Int)) 4 AP).mono ?_
 rintro e w1 ⟨a1,c1,rfl,hm1,hb1⟩
 have r1:=hm1.isRow
 have hk:=Vd (L:=rowB (iH (m.length:Int)) 4++m) rfl (by simp[rowB]) (mD _ _ _ _ _ _ _ r1 (h0.stay hb1) (by rw[aB];decide) hm)
 rw[aB] at hk
 go_wp2_with fail
 refine Calls.mono hk ?_
 rintro e w2 ⟨a2,X,c2,HX,rfl,hm2,hn,hb2⟩
 go_wp2_with fail
 go_ret
 exact⟨a2,X,c2,by rw[Hid,HX.o,NT];rfl,rfl,hm2.low hb1.size,hn,hb1.trans (hb2.mono hb1.size)⟩
theorem uJ (w:World) (t:List UInt8) (ht:t.length=32):
 Calls Tryz.prog 127 #[.agg (t.map vb).toArray] w (xg w.heap.size w t):=by
 have r0:=wo w _ 53 (0,0) t rfl AL
 have hc:∀k (h:k<t.length),(w.alloc (.cells (t.map vb).toArray 53)).cell? ⟨w.heap.size,k,none⟩=some (vb t[k]):=fun k h=>by have:=r0.cell k h;simpa[ad] using this
 have HT:=AQ ht
 have HC:=AQ hc
 clear ht r0 hc
 go_enter Tryz.func127,Tryz.ntmps127
 generalize (t.map vb).toArray=T at HC ⊢
 go_wp2_with fail
 go_loopw [3,4] (fun o i wr=>∃(k:Nat) (a:Option Addr) (c:Nat) (x:List UInt8),Hid (x=t.take k)∧k≤32∧i= .int .i64 k∧o= .slice a x.length c∧Own 5 (w.heap.size+1) wr a x c∧Below (w.heap.size+1) (w.alloc (.cells T 53)) wr) (fun _ i _=>32-(intOf i).toNat)
 case atStart=>exact⟨0,none,0,[],rfl,Nat.zero_le _,rfl,rfl,Own.nil _ _ _,Below.refl _ _⟩
 case round=>
  obtain⟨k,a,c,x,HX,hk,rfl,rfl,hown,hb⟩:=hrel
  have hs:w.heap.size+1≤wr.heap.size:=by have:=hb.size;simpa using this
  have hx:x.length≤k:=by rw[HX.o];simp;omega
  have hx9:x.length≤1000000000:=by omega
  by_cases hlt:k<32
  ·have hkt:k<t.length:=by rw[HT.o];exact hlt
   have e0:wr.cell? ⟨w.heap.size,k,none⟩=some (vb t[k]):=(hb.cell (p:=⟨w.heap.size,k,none⟩) AO).trans (HC.o k hkt)
   go_wp2_with (at_builtin;refine iU bt (.tmp 9) (.tmp 13) rfl rfl hown hx9 hs rfl rfl ?_;intro a' c' w' hown' hgr)
   go_roundw
   case rel=>exact⟨k+1,a',c',x++ [t[k]],by rw[HX.o,take_snoc t k hkt];rfl,by omega,by go_num,by simp,hown',hb.grown hgr hs (fun j hj=>(hown.aK hj).1)⟩
   case measure=>simp[intOf];omega
  ·have hk2:k=32:=by omega
   have HX2:Hid (x=t):=by rw[Hid,HX.o,hk2,←HT.o,List.take_length]
   clear HX hk2
   go_wp2_with fail
   go_ret
   exact⟨a,x,c,HX2,rfl,hown.low AL,fun h=>(by rw[h] at HX2;have h1:=HT.o;rw[←HX2.o] at h1;exact absurd h1 AP),((Below.refl _ _).alloc (Nat.le_refl _) _).trans (hb.mono AL)⟩
theorem uT (w:World) (b o:Nat) (t:List UInt8) (ht:t.length=32) (hc:∀k (h:k<t.length),w.cell? ⟨b,o+k,none⟩=some (vb t[k])):
 (Instr.loadAt 53 (.pointer (some ⟨b,o,none⟩))).run Tryz.prog w= .ok (.agg (t.map vb).toArray) w:=by
 refine run_loadAt_mid w b o 53 (t.map vb) _ (fun j v hv=> ?_) Tryz.underlying53 rfl ?_
 ·have hj:j<t.length:=by have:=(List.getElem?_eq_some_iff.1 hv).1;simpa using this
  rw[hc j hj]
  simpa[hj] using hv
 ·rw[List.length_map,ht];kernel_rfl
theorem aN {ops:Array Oper} {rest:List Oper} {o:Oper} {act:Act} {w:World} {Q:Exit→Act→World→Prop} {T:TypeId} {x:Operand} {p v:Value} (hgd:o.guard=none) (ho:o.op= .load T x) (hx:act.eval x=p) (hr:(Instr.loadAt T p).run Tryz.prog w= .ok v w)
 (h:wpList Tryz.prog ops Q rest (act.put o.dst v) w):wpList Tryz.prog ops Q (o::rest) act w:=by
 refine wpList_plain hgd fun K hK=> ?_
 unfold Oper.wp execOp
 simp only[ho,hx,Sem.run_bind,hr]
 exact hK _ _ h
theorem vH (w:World) (t:List UInt8) (ht:t.length=32):
 Calls Tryz.prog 55 #[.agg (t.map vb).toArray] w (xg w.heap.size w t):=by
 have hl:=uT (w.alloc (.cells (t.map vb).toArray 53)) w.heap.size 0 t ht (fun k h=>by have:=(wo w (t.map vb).toArray 53 (0,0) t rfl AL).cell k h;simpa[ad] using this)
 have hk:=uJ (w.alloc (.cells (t.map vb).toArray 53)) t ht
 generalize (t.map vb).toArray=T at hl hk ⊢
 clear ht
 go_enter Tryz.func55,Tryz.ntmps55
 have HL:=AQ hl
 clear hl
 go_wp2_with ((with_reducible refine aN (o:=⟨some 3, .load 53 (.tmp 1),_,_,_,_⟩) AA AA AA HL.o ?_))
 refine Calls.mono hk ?_
 rintro e w1 ⟨a1,X,c1,HX,rfl,hm,hn,hb⟩
 go_wp2_with fail
 go_ret
 exact⟨a1,X,c1,HX,rfl,hm.low AO,hn,((Below.refl _ _).alloc (Nat.le_refl _) _).trans (hb.mono AO)⟩
end Go.Proofs.YtlholdllibghbaaGreat
namespace Go.Cit
open Go Go.RowKit
theorem lC {w:World} {b:Nat} {C C':Array Value} {T:TypeId} {fr:Nat×Nat} (h:w.heap[b]? =some (.cells C T fr)):(w.setRow b C').heap[b]? =some (.cells C' T fr):=by
 simp[World.setRow,Array.getElem?_modify,h]
theorem lG (w:World) (b:Nat) (C':Array Value):Save (· ≠b) w (w.setRow b C'):=by
 refine⟨rfl,rfl,rfl,by simp[World.setRow],fun k _ hk=> ?_⟩
 simp[World.setRow,Array.getElem?_modify,Ne.symm hk]
section
variable {P:Program} {ops:Array Oper} {rest:List Oper} {o:Oper} {act:Act} {w w':World} {Q:Exit→Act→World→Prop}
theorem aj {v:Value} (hgd:o.guard=none) (hr:(execOp act.eval o).run P w= .ok (.value v) w')
 (h:wpList P ops Q rest (act.put o.dst v) w'):wpList P ops Q (o::rest) act w:=by
 refine wpList_plain hgd fun K hK=> ?_
 unfold Oper.wp
 rw[hr]
 exact hK _ _ h
theorem wpList_skip (hgd:o.guard=none) (hr:(execOp act.eval o).run P w= .ok .skip w')
 (h:wpList P ops Q rest (act.put o.dst undef) w'):wpList P ops Q (o::rest) act w:=by
 refine wpList_plain hgd fun K hK=> ?_
 unfold Oper.wp
 rw[hr]
 exact hK _ _ h
structure fO (P:Program) (T:TypeId) (n:Nat):Prop where
 desc:∃d,P.underlying T=some d∧d.isRow=true
 info:(P.info? T).map (·.size)=some n
theorem rQ {T E:TypeId} {b:Nat} {C:Array Value} {fr:Nat×Nat} {d:TypeDesc} (hu:P.underlying T=some d) (hd:d.isRow=true) (hi:(P.info? T).map (·.size)=some C.size) (hb:w.heap[b]? =some (.cells C E fr)):
 (loadVar T ⟨b,0,none⟩).run P w= .ok (.agg C) w:=by
 have:=run_loadVar_mid (P:=P) w b 0 T C.toList d (fun j v hv=>by
  have hv':C[j]? =some v:=by simpa using hv
  rw[Nat.zero_add,World.cell?,hb]
  exact hv') hu hd (by simpa using hi)
 simpa using this
theorem dD {T E:TypeId} {n b:Nat} {C:Array Value} {fr:Nat×Nat} (hT:fO P T n) (x:Operand) (hgd:o.guard=none) (ho:o.op= .load T x) (hx:act.eval x= .pointer (some ⟨b,0,none⟩)) (hb:w.heap[b]? =some (.cells C E fr)) (hn:C.size=n)
 (h:wpList P ops Q rest (act.put o.dst (.agg C)) w):wpList P ops Q (o::rest) act w:=by
 obtain⟨⟨d,hu,hd⟩,hi⟩:=hT
 have hr:=rQ (P:=P) hu hd (by rw[hi,hn]) hb
 refine aj (w':=w) (v:= .agg C) hgd ?_ h
 unfold execOp
 simp only[ho,hx,Sem.run_bind,Instr.loadAt,Instr.sureAddr,Sem.run_pure,Result.andThen,hr]
theorem ay {T E:TypeId} {n b:Nat} {C C':Array Value} (hT:fO P T n) (x y:Operand) (hgd:o.guard=none) (ho:o.op= .store T x y) (hd:o.dst=none) (hx:act.eval x= .pointer (some ⟨b,0,none⟩)) (hy:act.eval y= .agg C') (hb:w.heap[b]? =some (.cells C E (0,0)))
 (hn:C.size=n) (hn':C'.size=n) (h1:C'.all (·.oneCell')=true)
 (h:∀w',w'.heap[b]? =some (.cells C' E (0,0))→Save (· ≠b) w w'→wpList P ops Q rest act w'):wpList P ops Q (o::rest) act w:=by
 have hr:=run_storeVar_row (P:=P) w b E T C C' hb (by rw[hT.info,hn']) (by rw[hn,hn']) h1
 refine wpList_skip (w':=w.setRow b C') hgd ?_ ?_
 ·unfold execOp
  simp only[ho,hx,hy,Sem.run_bind,Instr.storeAt,Instr.sureAddr,Sem.run_pure,Result.andThen,hr]
 ·rw[hd];exact h _ (lC hb) (lG _ _ _)
end
section
variable {P:Program} {w:World} {fn:Func} {tmps:Array Value}
theorem ig {T E:TypeId} {n b a:Nat} {C:Array Value} {fr:Nat×Nat} (hT:fO P T n) (hf:fn.results= #[.cell a T]) (ha:tmps.getD a undef= .pointer (some ⟨b,0,none⟩)) (hb:w.heap[b]? =some (.cells C E fr)) (hn:C.size=n):
 (results fn tmps).run P w= .ok (.agg C) w:=by
 obtain⟨⟨d,hu,hd⟩,hi⟩:=hT
 have hr:=rQ (P:=P) hu hd (by rw[hi,hn]) hb
 have ha2:tmps[a]?.getD undef= .pointer (some ⟨b,0,none⟩):=by rw[←Array.getD_eq_getD_getElem?];exact ha
 simp[results,hf,ha2,asAddr,hr]
theorem jS {T E:TypeId} {n b a t:Nat} {C:Array Value} {fr:Nat×Nat} (hT:fO P T n) (hf:fn.results= #[.cell a T, .tmp t]) (ha:tmps.getD a undef= .pointer (some ⟨b,0,none⟩)) (hb:w.heap[b]? =some (.cells C E fr)) (hn:C.size=n):
 (results fn tmps).run P w= .ok (.tuple #[.agg C,tmps.getD t undef]) w:=by
 obtain⟨⟨d,hu,hd⟩,hi⟩:=hT
 have hr:=rQ (P:=P) hu hd (by rw[hi,hn]) hb
 have ha2:tmps[a]?.getD undef= .pointer (some ⟨b,0,none⟩):=by rw[←Array.getD_eq_getD_getElem?];exact ha
 simp[results,hf,ha2,asAddr,hr]
end
end Go.Cit
