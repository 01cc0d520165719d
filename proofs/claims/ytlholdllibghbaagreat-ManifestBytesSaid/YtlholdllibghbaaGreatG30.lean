/- Texts of the proof, one behind the other: Purpose, HmacSum, Derive, ManHead. No condition but those that each names. -/
import Derived.Test.YtlholdllibghbaaGreatG28
import Derived.Test.YtlholdllibghbaaGreatG27
import Derived.Test.YtlholdllibghbaaGreatG29
import Derived.Test.YtlholdllibghbaaGreatG21
import Derived.StillTailTactics
import Derived.Test.YtlholdllibghbaaGreatG10
import Derived.Test.YtlholdllibghbaaGreatG19
import Derived.Test.YtlholdllibghbaaGreatG22
import Derived.Test.YtlholdllibghbaaGreatKit
set_option maxRecDepth 100000
set_option maxHeartbeats 8000000
namespace Go.Proofs.YtlholdllibghbaaGreat
open Go Go.RowKit Go.Cit
def Clear (w:World) (a:Option Addr) (d:Sl UInt8):Prop:=Row w d.a d.l d.c∧∀g,Go.Cit.blk d.a=some g→g<w.heap.size∧Go.Cit.blk a≠some g
theorem Clear.grown {w w':World} {a a2:Option Addr} {d:Sl UInt8} (h:Clear w a d) (hg:w.grownBy w' (Go.Cit.blk a)) (hn:iI w.heap.size a a2):Clear w' a2 d:=by
 refine⟨h.1.save (Save.grown hg) (fun g hg' e=>(h.2 g hg').2 e.symm),fun g hg'=>⟨Nat.lt_of_lt_of_le (h.2 g hg').1 hg.size,fun e=> ?_⟩⟩
 rcases hn g e with h1 |h1
 ·exact(h.2 g hg').2 h1
 ·have:=(h.2 g hg').1;omega
theorem Clear.stay {w w':World} {a:Option Addr} {d:Sl UInt8} (h:Clear w a d) (hb:Below w.heap.size w w'):Clear w' a d:=
 ⟨h.1.stay hb,fun g hg=>⟨Nat.lt_of_lt_of_le (h.2 g hg).1 hb.size,(h.2 g hg).2⟩⟩
theorem OE {W:World} {b o:Nat} {ds:List (Sl UInt8)} {c:Nat} (h:Vec sf 1 W (some ⟨b,o,none⟩) ds c) (hr:∀d∈ds,Row W d.a d.l d.c):Lib.PartsAt W ⟨b,o,none⟩ (ds.map sv) (ds.map (·.l)):=by
 refine⟨by simp,fun i v hv=> ?_,fun i v l hv hl=> ?_⟩
 ·rw[List.getElem?_map] at hv
  obtain⟨d,hd,rfl⟩:=Option.map_eq_some_iff.1 hv
  obtain⟨hi,rfl⟩:=List.getElem?_eq_some_iff.1 hd
  have:=h.cell1 (v:=sv) i hi
  simpa[ad,Addr.add_mid] using this
 ·rw[List.getElem?_map] at hv hl
  obtain⟨d,hd,rfl⟩:=Option.map_eq_some_iff.1 hv
  obtain⟨d2,hd2,rfl⟩:=Option.map_eq_some_iff.1 hl
  obtain rfl:d=d2:=by rw[hd] at hd2;exact Option.some.inj hd2
  exact dF (hr d (List.mem_of_getElem? hd))
theorem zY (s:List UInt8) (zs:List Int):(vV s zs).length=s.length+1+8*zs.length:=by
 unfold vV
 rw[List.length_append,List.length_append]
 congr 1
 induction zs with
 | nil=>rfl
 | cons z zs ih=>rw[List.map_cons,List.flatten_cons,List.length_append,ih,aB,List.length_cons];omega
theorem string_size {w w1:World} {l:List UInt8} {v:Value} (h:(convert 9 40 (.string ⟨l.toArray⟩)).run Tryz.prog w= .ok v w1):w1.heap.size=w.heap.size+1:=by
 have hr:=Lib.run_convert_string_bytes (P:=Tryz.prog) w 9 40 5 ⟨l.toArray⟩ Tryz.underlying9 Tryz.underlying40 Tryz.underlying5
 have he:=hr.symm.trans h
 simp only[Result.ok.injEq] at he
 rw[←he.2,Lib.bytesWorld_size]
theorem BD (w:World) (s:List UInt8) (hs9:s.length≤1000) (a:Option Addr) (zs:List Int) (c:Nat) (h:Ints w a zs c) (hz9:zs.length≤1000):
 Calls Tryz.prog 220 #[.string ⟨s.toArray⟩, .slice a zs.length c] w fun e w'=>∃a' c',e= .returned (.slice a' (vV s zs).length c')∧Row w' a' (vV s zs) c'∧Below w.heap.size w w':=by
 have HSP:=AQ (BJ w s AL)
 have HZ:=AQ h
 obtain⟨n,hn⟩:=AU zs.length
 rw[←hn.o]
 have hn9:n≤1000:=by rw[hn.o];exact hz9
 clear h
 obtain⟨c1,w1,hr1,hS1,hb1⟩:=HSP.o
 have HS1:=AQ hS1
 have HB1:=AQ hb1
 clear hS1 hb1 HSP
 go_enter Tryz.func220,Tryz.ntmps220
 go_wp2_with fail
 obtain⟨d0,hd0⟩:∃d0:Sl UInt8,Hid (d0=⟨some ⟨w.heap.size,0,none⟩,c1,s⟩):=⟨_,rfl⟩
 obtain⟨d1,hd1⟩:∃d1:Sl UInt8,Hid (d1=⟨some ⟨w1.heap.size,0,none⟩,1,[0]⟩):=⟨_,rfl⟩
 obtain⟨ds0,hds0⟩:∃ds0:List (Sl UInt8),Hid (ds0=[d0,d1]):=⟨_,rfl⟩
 obtain⟨wx,hwx⟩:=AU (w1.alloc (.cells #[.int .u8 0] 5))
 have HBX:Hid (Below w1.heap.size w1 wx):=by rw[hwx.o];exact(Below.refl _ _).alloc (Nat.le_refl _) _
 have HXS:Hid (wx.heap.size=w1.heap.size+1):=by rw[Hid,hwx.o];simp
 have HLT:Hid (Row wx (some ⟨w1.heap.size,0,none⟩) [0] 1):=by rw[hwx.o];exact(kZ w1 #[.int .u8 0] 5 [0] (by rfl) AO).isRow
 have HV0:Hid (aS sf 1 40 wx.heap.size (wx.alloc (.cells #[.slice (some ⟨w.heap.size,0,none⟩) s.length c1, .slice (some ⟨w1.heap.size,0,none⟩) 1 1] 40)) (some ⟨wx.heap.size,0,none⟩) ds0 ds0.length):=by
  refine jh wx _ _ 1 ds0 JI ?_ (by rw[hds0.o];simp)
  rw[hds0.o,hd0.o,hd1.o]
  rfl
 have HSZ:=AQ HB1.o.size
 have HZ1:=AQ (string_size hr1)
 have HXB:Hid (Below w.heap.size w wx):=HB1.o.trans (HBX.o.mono HSZ.o)
 have HSX:=AQ (HS1.o.stay HBX.o)
 rw[←hwx.o]
 have e1:w1.heap.size+1=wx.heap.size:=HXS.o.symm
 rw[e1]
 clear e1
 obtain⟨wy,hwy⟩:=AU (wx.alloc (.cells #[.slice (some ⟨w.heap.size,0,none⟩) s.length c1, .slice (some ⟨w1.heap.size,0,none⟩) 1 1] 40))
 rw[←hwy.o] at HV0 ⊢
 have HYB0:Hid (Below wx.heap.size wx wy):=by rw[hwy.o];exact(Below.refl _ _).alloc (Nat.le_refl _) _
 have HYB:Hid (Below w.heap.size w wy):=HXB.o.trans (HYB0.o.mono HXB.o.size)
 have HYS:Hid (wy.heap.size=wx.heap.size+1):=by rw[Hid,hwy.o];simp
 have HC0:Hid (∀d∈ds0,Clear wy (some ⟨wx.heap.size,0,none⟩) d):=by
  rw[hds0.o]
  have h1:=HXS.o
  have h2:=HYS.o
  have h3:=HZ1.o
  have h4:=HYB0.o
  intro d hd
  rcases List.mem_cons.1 hd with rfl |hd
  ·rw[hd0.o]
   refine⟨(HSX.o.stay h4),fun g hg=> ?_⟩
   simp[Go.Cit.blk] at hg ⊢
   omega
  ·obtain rfl:d=d1:=by simpa using hd
   rw[hd1.o]
   refine⟨(HLT.o.stay h4),fun g hg=> ?_⟩
   simp[Go.Cit.blk] at hg ⊢
   omega
 have HL0:Hid (ds0.length=2):=by rw[Hid,hds0.o];rfl
 clear hwx hwy
 go_loopw [5,14] (fun t i wr=>∃(k:Nat) (a':Option Addr) (c':Nat) (ds:List (Sl UInt8)),Hid (ds.map (·.l)=s:: [0]::(zs.take k).map fun z=>rowB (PS z) 8)∧Hid (ds.length=2+k)∧k≤n∧i= .int .i64 k∧t= .slice a' ds.length c'∧Hid (aS sf 1 40 w.heap.size wr a' ds c')∧Hid (∀d∈ds,Clear wr a' d)∧Hid (Below w.heap.size w wr)) (fun _ i _=>n-(intOf i).toNat)
 case atStart=>exact⟨0,_,2,ds0,by rw[Hid,hds0.o,hd0.o,hd1.o];rfl,HL0,Nat.zero_le _,rfl,by rw[HL0.o],by have:=HV0.o;rw[HL0.o] at this;exact this.low HXB.o.size,HC0,HYB⟩
 case round=>
  obtain⟨k,a',c',ds,HX,HL,hk,rfl,rfl,HO,HCl,HB⟩:=hrel
  by_cases hlt:k<n
  ·have hkz:k<zs.length:=by rw[←hn.o];exact hlt
   have hZ:=HZ.o.stay HB.o
   have i0:=hZ.index k hkz
   have e0:=hZ.cell k hkz
   rw[←hn.o] at i0
   obtain⟨z,hz⟩:∃z,Hid (z=zs[k]):=⟨zs[k],rfl⟩
   rw[←hz.o] at e0
   clear hZ
   have hc:=qN wr (PS z)
   go_wp2_with fail
   rw[RF z]
   refine Calls.mono hc ?_
   rintro e w4 ⟨a4,c4,rfl,hO4,hb4⟩
   have hbs:=HB.o.size
   have hbk:∀ {g:Nat},Go.Cit.blk a4=some g→wr.heap.size≤g∧g<w4.heap.size:=fun hg=>hO4.aK hg
   have HO4:Hid (Row w4 a4 (rowB (PS z) 8) c4):=hO4.isRow
   have HOs:=AQ (HO.o.stay hb4)
   have HB4:=AQ (HB.o.trans (hb4.mono hbs))
   have HR8:=AQ (aB (PS z) 8)
   obtain⟨y,hy⟩:∃y:Sl UInt8,Hid (y=⟨a4,c4,rowB (PS z) 8⟩):=⟨_,rfl⟩
   have HCY:Hid (∀d∈ds++ [y],Clear w4 a' d):=by
    intro d hd
    rcases List.mem_append.1 hd with hd |hd
    ·exact(HCl.o d hd).stay hb4
    ·obtain rfl:d=y:=by simpa using hd
     rw[hy.o]
     refine⟨HO4.o,fun g hg=>⟨(hbk hg).2,fun e=> ?_⟩⟩
     have h1:=(hbk hg).1
     have h2:=(HO.o.aK e).2
     omega
   have HYC:Hid (#[Value.slice a4 8 c4]=(sf y).toArray):=by rw[Hid,hy.o];show _= #[Value.slice a4 (rowB (PS z) 8).length c4];rw[HR8.o]
   obtain⟨ds2,hds2⟩:∃ds2,Hid (ds2=ds++ [y]):=⟨ds++ [y],rfl⟩
   have HNX:Hid (ds2.map (·.l)=s:: [0]::(zs.take (k+1)).map fun z=>rowB (PS z) 8):=by
    rw[Hid,hds2.o,List.map_append,HX.o,hy.o,←take_snoc zs k hkz,List.map_append,←hz.o];rfl
   have HL8:Hid (ds2.length=2+(k+1)):=by rw[Hid,hds2.o,List.length_append,HL.o];rfl
   have hdl:ds.length+1≤1000000000:=by rw[HL.o];omega
   clear hO4 hb4 hbs hc hbk
   rw[←hds2.o] at HCY
   go_wp2_with (first
    | ((with_reducible refine dA (o:=⟨some 23, .call _,_,_,_,_⟩) Q8 JI RU (y:=y) (.tmp 18) (.tmp 22) AA AA HOs.o HYC.o hdl HB4.o.size AA AA ?_);intro a5 c5 w5 hO5 hg5 hn5;rw[←hds2.o] at hO5 ⊢;have HO5:=AQ hO5;have HB5:=AQ (HB4.o.trans (HOs.o.grown hg5 HB4.o.size));have HC5:Hid (∀d∈ds2,Clear w5 a5 d):=(fun d hd=>(HCY.o d hd).grown hg5 hn5);clear hO5 hg5 hn5))
   go_roundw
   case rel=>exact⟨k+1,a5,c5,ds2,HNX,HL8,by omega,by go_num,rfl,HO5,HC5,HB5⟩
   case measure=>simp[intOf];omega
  ·have hk2:k=n:=by omega
   subst hk2
   have hV:=HO.o.vec JI
   obtain⟨b,off,rfl⟩:=hV.spot (by intro h0;have:=HL.o;rw[h0] at this;simp at this;omega)
   have hF:(ds.map (·.l)).flatten=vV s zs:=by
    rw[HX.o,hn.o,List.take_length]
    unfold vV
    simp
   have hcc:=kQ wr b off c' (ds.map sv) (ds.map (·.l)) (OE hV (fun d hd=>(HCl.o d hd).1)) (by rw[List.length_map];exact hV.le) (by rw[hF,zY];omega) (by rw[List.length_map,HL.o];omega)
   rw[hF,List.length_map] at hcc
   have HCC:=AQ hcc
   clear hcc hF hV
   go_wp2_with fail
   refine HCC.o.mono ?_
   rintro e w6 ⟨a6,c6,rfl,hm6,hb6⟩
   have HM6:=AQ hm6.row
   have HB6:=AQ (HB.o.trans (hb6.mono HB.o.size))
   clear hm6 hb6
   go_wp2_with fail
   go_ret
   exact⟨a6,c6,rfl,HM6.o,HB6.o⟩
open Go Go.RowKit Go.Cit
section
variable {P:Program} {w:World} {o:Oper} {ρ:Operand→Value} {post:Value→World→Prop}
theorem qJ {f:FuncId} {x:Operand} {xs:Array Operand} {ts:Array TypeId} {cap:Array Value} (h:o.op= .call {callee:= .value x,args:=xs,argTypes:=ts}) (hf:ρ x= .func (.func f) #[] cap)
 (args all:Array Value) (hall:args++cap=all) (hcf:∀w,(callFunc f all).run P w= .ok (.enter f all) w) (ha:xs.map ρ=args) (hc:Calls P f all w fun e w''=>∃v,e= .returned v∧post v w''):bQ P post ((execOp ρ o).run P w):=by
 unfold execOp;rw[h];dsimp only;unfold resolve;dsimp only;rw[hf,ha]
 have e2:(invoke (.fn (.func f) cap) args:Sem Next).run P w= .ok (.enter f all) w:=by
  unfold invoke;dsimp only;rw[hall];exact hcf w
 simp only[Deferred.ofValue,Sem.run_bind,Sem.run_pure,Result.andThen,Array.empty_append,e2]
 exact hc
end
def jT (l:List UInt8) (by_:UInt8):List UInt8:=l.map fun x=>yD x by_
def jA (k:List UInt8):List UInt8:=F8 (nC k) 64
theorem mO (k:List UInt8):(jA k).length=64:=by
 have:=Bc k
 unfold jA F8
 rw[List.length_append,List.length_replicate];omega
def Aq (k b:List UInt8):List UInt8:=jX (jT (jA k) 92++jX (jT (jA k) 54++b))
theorem sD (k b:List UInt8):(Aq k b).length=32:=gZ _
theorem Py (l:List UInt8) (x:UInt8) (k:Nat) (h:k<l.length):(jT (l.take k) x++l.drop k)[k]? =some l[k]:=by
 have hl:(jT (l.take k) x).length=k:=by unfold jT;rw[List.length_map,List.length_take];omega
 rw[List.getElem?_append_right AL,hl,Nat.sub_self,List.drop_eq_getElem_cons h];rfl
theorem Oa (l:List UInt8) (x:UInt8) (k:Nat) (h:k<l.length):(jT (l.take k) x++l.drop k).set k (yD l[k] x)=jT (l.take (k+1)) x++l.drop (k+1):=by
 have hl:(jT (l.take k) x).length=k:=by unfold jT;rw[List.length_map,List.length_take];omega
 rw[List.set_append_right _ _ AL,hl,Nat.sub_self,List.drop_eq_getElem_cons h,List.set_cons_zero,List.take_succ_eq_append_getElem h]
 unfold jT
 rw[List.map_append,List.append_assoc];rfl
theorem CJ (l:List UInt8) (x:UInt8):(jT l x).length=l.length:=by simp[jT]
theorem xX (w:World) (b:Nat) (x:UInt8) (a:Option Addr) (l:List UInt8) (c:Nat) (hc:w.cell? ⟨b,0,none⟩=some (.slice a l.length c)) (h:Row w a l c) (hl:l.length≤1000000):
 Calls Tryz.prog 245 #[vb x, .pointer (some ⟨b,0,none⟩)] w fun e w'=>∃a' c',e= .returned (.slice a' l.length c')∧Cit.Own 5 w.heap.size w' a' (jT l x) c'∧Below w.heap.size w w':=by
 have HC:=AQ (pG w a l c h AL)
 clear h
 go_enter Tryz.func245,Tryz.ntmps245
 go_wp2_with fail
 refine HC.o.mono ?_
 rintro e w1 ⟨a1,c1,rfl,hO1,hb1⟩
 clear hc HC
 go_wp2_with fail
 go_loopw [10] (fun i wr=>∃(k:Nat) (m:List UInt8),k≤l.length∧i= .int .i64 k∧Hid (m.length=l.length)∧Hid (m=jT (l.take k) x++l.drop k)∧Cit.Own 5 w.heap.size wr a1 m c1∧Below w.heap.size w wr) (fun i _=>l.length-(intOf i).toNat)
 case atStart=>exact⟨0,l,Nat.zero_le _,rfl,rfl,by simp[Hid,jT],hO1,hb1⟩
 case round=>
  clear hO1 hb1
  obtain⟨k,m,hk,rfl,HML,HM,hO,B⟩:=hrel
  by_cases hlt:k<l.length
  ·have d1:decide (k<l.length)=true:=by simpa using hlt
   have hkm:k<m.length:=by rw[HML.o];exact hlt
   have hr:=hO.isRow
   have ik:=hr.index bt.slice bt.sz k hkm
   have ek:=hr.cell k hkm
   have fk:=hO.frozen k hkm
   obtain⟨hst,hgr⟩:=Cit.Own.stored hO k hkm (yD m[k] x)
   have hmk:m[k]=l[k]:=by
    have h1:=Py l x k hlt
    rw[←HM.o,List.getElem?_eq_getElem hkm] at h1
    exact Option.some.inj h1
   have HS:Hid (m.set k (yD m[k] x)=jT (l.take (k+1)) x++l.drop (k+1)):=by
    rw[Hid,hmk,HM.o,Oa l x k hlt]
   have HO2:=AQ hst
   have HB2:=AQ (B.trans (grown_below hgr B.size (fun j hj=>(hO.aK hj).1)))
   rw[HML.o] at ik
   obtain⟨y,hy⟩:∃y,m[k]=y:=⟨_,rfl⟩
   rw[hy] at ek HO2 HB2 HS
   clear hst hgr hmk hy hr hkm hO
   go_wp2_with fail
   go_roundw
   case rel=>exact⟨k+1,_,by omega,by go_num,by rw[Hid,List.length_set];exact HML.o,HS,HO2.o,HB2.o⟩
   case measure=>simp[intOf];omega
  ·have d1:decide (k<l.length)=false:=by simpa using hlt
   have HM2:Hid (m=jT l x):=by
    rw[Hid,HM.o,List.take_of_length_le AL,List.drop_of_length_le AL,List.append_nil]
   go_wp2_with fail
   go_ret
   exact⟨a1,c1,rfl,by rw[←HM2.o];exact hO,B⟩
theorem FQ (w:World) (a:Option Addr) (k:List UInt8) (c:Nat) (h:Row w a k c) (hl:k.length≤10000000):
 Calls Tryz.prog 219 #[.slice a k.length c] w fun e w'=>∃b a' c',e= .returned (.func (.func 245) #[] #[.pointer (some ⟨b,0,none⟩)])∧w'.cell? ⟨b,0,none⟩=some (.slice a' (jA k).length c')∧Row w' a' (jA k) c'∧w.heap.size≤b∧(∀g,Go.Cit.blk a'=some g→w.heap.size≤g)∧Below w.heap.size w w':=by
 have hmf:∀(fn:Fn) (first cap:Array Value) (w:World),(Instr.makeFunc fn first cap).run Tryz.prog w= .ok (.func fn first cap) w:=fun _ _ _ _=>rfl
 have HS:=AQ (Gy w a k c h hl)
 clear h
 go_enter Tryz.func219,Tryz.ntmps219
 go_wp2_with fail
 refine HS.o.mono ?_
 rintro e w1 ⟨a1,c1,rfl,hO1,hb1⟩
 have hsl:=Bc k
 have HP:=AQ (EF w1 a1 (nC k) c1 64 hO1.isRow AL AP)
 clear hO1 hsl
 go_wp2_with fail
 refine HP.o.mono ?_
 rintro e w2 ⟨a2,c2,rfl,hm2,hb2⟩
 have hR:Row w2 a2 (jA k) c2:=hm2.row
 have HNW:Hid (∀g,Go.Cit.blk a2=some g→w.heap.size≤g):=fun g hg=>Nat.le_trans hb1.size (hm2.new g hg)
 have HR:=AQ hR
 have HB2:=AQ (hb1.trans (hb2.mono hb1.size))
 rw[show F8 (nC k) 64=jA k from rfl]
 clear hR hm2 hb1 hb2
 go_wp2_with fail
 go_ret
 have hz:Below w2.heap.size w2 (w2.alloc (.cells #[.slice a2 (jA k).length c2] 40)):=(Below.refl _ _).alloc (Nat.le_refl _) _
 refine⟨w2.heap.size,a2,c2,rfl, ?_,HR.o.stay hz,HB2.o.size,HNW.o,HB2.o.trans (hz.mono HB2.o.size)⟩
 rw[World.cell?,heap_alloc_new];rfl
def Um (r:Nat) (vf:Value) (M L:List UInt8) (vs:Value) (D:Array Value):Nat→Value→World→Prop
 | 15,v,_=>v=vf
 | 16,v,w=>∃a c,v= .slice a 64 c∧Row w a M c∧∀g,Go.Cit.blk a=some g→g≠r
 | 17,v,_=>v=vs
 | 18,v,w=>∃g a c,v= .slice (some ⟨g,0,none⟩) 2 2∧g≠r∧w.cell? ⟨g,0,none⟩=some (.slice a M.length c)∧w.cell? ⟨g,1,none⟩=some vs∧Row w a M c∧∀g',Go.Cit.blk a=some g'→g'≠r
 | 19,v,w=>∃a c,v= .slice a L.length c∧Row w a L c∧∀g,Go.Cit.blk a=some g→g≠r
 | 20,v,_=>v= .agg D
 | _,_,_=>True
theorem O9 {r:Nat} {vf:Value} {M L:List UInt8} {vs:Value} {D:Array Value} {d:Nat} {v:Value} {wx w':World} (hG:Save (· ≠r) wx w') (h:Um r vf M L vs D d v wx):Um r vf M L vs D d v w':=by
 unfold Um at h ⊢
 split at h<;>try exact h
 ·obtain⟨a,c,h1,h2,h3⟩:=h
  exact⟨a,c,h1,h2.save hG h3,h3⟩
 ·obtain⟨g,a,c,h1,h2,h3,h4,h5,h6⟩:=h
  exact⟨g,a,c,h1,h2,(hG.cell (World.block_lt_of_cell? _ _ h3) h2).trans h3,(hG.cell (World.block_lt_of_cell? _ _ h4) h2).trans h4,h5.save hG h6,h6⟩
 ·obtain⟨a,c,h1,h2,h3⟩:=h
  exact⟨a,c,h1,h2.save hG h3,h3⟩
theorem zK (w:World) (a:Option Addr) (k:List UInt8) (c:Nat) (h:Row w a k c) (hl:k.length≤1000000) (a2:Option Addr) (b:List UInt8) (c2:Nat) (h2:Row w a2 b c2) (hl2:b.length≤1000000):
 Calls Tryz.prog 164 #[.slice a k.length c, .slice a2 b.length c2] w fun e w'=>e= .returned (.agg ((Aq k b).map vb).toArray)∧Below w.heap.size w w':=by
 have HA:=AQ (fun ρ d ty ps af w=>jL ρ d ty ps (af:=af) w)
 obtain⟨X,hX⟩:=AU (((List.replicate 32 (0:UInt8)).map vb).toArray)
 rw[←hX.o] at HA
 have HX:Hid (X.size=32):=by rw[Hid,hX.o];simp
 have B0:Below w.heap.size w (w.alloc (.cells X 53)):=(Below.refl _ _).alloc (Nat.le_refl _) _
 have x0:(w.alloc (.cells X 53)).heap[w.heap.size]? =some (.cells X 53 (0,0)):=heap_alloc_new w _
 have HB0:=AQ (And.intro x0 B0)
 have HM0:=AQ (FQ _ a k c (h.stay B0) AL)
 have HR0:=AQ (h2.stay B0)
 clear B0 x0 h h2
 go_enter Tryz.func164,Tryz.ntmps164
 go_wp2_with (first
  | ((with_reducible refine aj (o:=⟨some 4, .alloc _,_,_,_,_⟩) AA (HA.o _ _ _ _ _ _) ?_)))
 refine HM0.o.mono ?_
 rintro e w1 ⟨bf,af,cf,rfl,hcf,hrf,hbf,hnf,hb1⟩
 rw[World.size_alloc] at hbf
 have hnf':∀g,Go.Cit.blk af=some g→w.heap.size+1≤g:=fun g hg=>by have:=hnf g hg;simp at this;omega
 have hsz1:w.heap.size<w1.heap.size:=by have:=hb1.size;simp at this;omega
 have HX1:Hid (w1.heap[w.heap.size]? =some (.cells X 53 (0,0))):=(hb1.block _ AO).trans HB0.o.1
 have B1:=HB0.o.2.trans (hb1.mono AO)
 have HR1:=AQ (HR0.o.stay hb1)
 have hk:Calls Tryz.prog 245 #[.int .u8 54, .pointer (some ⟨bf,0,none⟩)] w1 _:=xX w1 bf 54 af (jA k) cf hcf hrf (by rw[mO];decide)
 rw[mO] at hk
 have HK:=AQ hk
 have HCF:=AQ (And.intro hcf (And.intro hrf hnf'))
 clear hb1 hcf hrf hnf hnf' HM0 HR0 hk
 go_wp2_with fail
 refine HK.o.mono ?_
 rintro e w2 ⟨a3,c3,rfl,hO3,hb2⟩
 have B2:=B1.trans (hb2.mono B1.size)
 have HX2:Hid (w2.heap[w.heap.size]? =some (.cells X 53 (0,0))):=(hb2.block _ hsz1).trans HX1.o
 have hsz2:w.heap.size<w2.heap.size:=by have:=hb2.size;omega
 have HR2:=AQ (HR1.o.stay hb2)
 have HCF2:Hid (w2.cell? ⟨bf,0,none⟩=some (.slice af (jA k).length cf)∧Row w2 af (jA k) cf):=⟨(hb2.cell (World.block_lt_of_cell? _ _ HCF.o.1)).trans HCF.o.1,HCF.o.2.1.stay hb2⟩
 have HNF:=AQ HCF.o.2.2
 have hm64:(jT (jA k) 54).length=64:=by rw[CJ,mO]
 have hc2:=tY w2 40 hO3.isRow HR2.o (by rw[hm64];decide) AL
 rw[hm64] at hc2
 have HC2:=AQ hc2
 clear hb2 B1 hO3 HX1 HR1 HK HCF hc2
 go_wp2_with fail
 refine HC2.o.mono ?_
 rintro e w3 ⟨a4,c4,rfl,hm4,hb3⟩
 have B3:=B2.trans (hb3.mono B2.size)
 have hsz3:w.heap.size<w3.heap.size:=by have:=hb3.size;omega
 have HX3:Hid (w3.heap[w.heap.size]? =some (.cells X 53 (0,0))):=(hb3.block _ hsz2).trans HX2.o
 have HCF3:Hid (w3.cell? ⟨bf,0,none⟩=some (.slice af (jA k).length cf)∧Row w3 af (jA k) cf):=⟨(hb3.cell (World.block_lt_of_cell? _ _ HCF2.o.1)).trans HCF2.o.1,HCF2.o.2.stay hb3⟩
 obtain⟨I,hI⟩:=AU (jT (jA k) 54++b)
 rw[←hI.o] at hm4 ⊢
 have hIl:I.length≤2000000:=by rw[hI.o,List.length_append,hm64];omega
 have HS3:=AQ (rO w3 a4 I c4 hm4.row AL)
 clear hb3 B2 hm4 HX2 HCF2 HC2 hm64
 go_wp2_with fail
 refine HS3.o.mono ?_
 rintro e w4 ⟨rfl,hb4⟩
 have B4:=B3.trans (hb4.mono B3.size)
 have hsz4:w.heap.size<w4.heap.size:=by have:=hb4.size;omega
 have HX4:Hid (w4.heap[w.heap.size]? =some (.cells X 53 (0,0))):=(hb4.block _ hsz3).trans HX3.o
 have HCF4:Hid (w4.cell? ⟨bf,0,none⟩=some (.slice af (jA k).length cf)∧Row w4 af (jA k) cf):=⟨(hb4.cell (World.block_lt_of_cell? _ _ HCF3.o.1)).trans HCF3.o.1,HCF3.o.2.stay hb4⟩
 obtain⟨D,hD⟩:=AU (((jX I).map vb).toArray)
 rw[←hD.o]
 have HD:Hid (D.size=32):=by rw[Hid,hD.o];simpa using gZ I
 have HDo:Hid (D.all (·.oneCell')=true):=by rw[Hid,hD.o];exact nT _
 have HN4:Hid ((w4.alloc (.cells X 53)).heap[w4.heap.size]? =some (.cells X 53 (0,0))):=heap_alloc_new _ _
 clear hb4 B3 HX3 HCF3 HS3
 go_wp2_with (first
  | ((with_reducible refine aj (o:=⟨some 6, .alloc _,_,_,_,_⟩) AA (HA.o _ _ _ _ _ _) ?_))
  | ((with_reducible refine ay (o:=⟨none, .store _ (.tmp 6) (.tmp 14),_,_,_,_⟩) iL (.tmp 6) (.tmp 14) AA AA AA AA AA HN4.o HX.o HD.o HDo.o ?_);intro w5 hb5 hS5;have HB5:=AQ hb5;have HS5:=AQ hS5;clear hb5 hS5))
 have hs5:=HS5.o.size
 rw[World.size_alloc] at hs5
 have hA5:Below w4.heap.size w4 w5:=((Below.refl _ w4).alloc (Nat.le_refl _) (.cells X 53)).trans (HS5.o.below AO (fun j hj=>by omega))
 have B5:=B4.trans (hA5.mono B4.size)
 have HX5:Hid (w5.heap[w.heap.size]? =some (.cells X 53 (0,0))):=(hA5.block _ hsz4).trans HX4.o
 have HCF5:Hid (w5.cell? ⟨bf,0,none⟩=some (.slice af (jA k).length cf)∧Row w5 af (jA k) cf):=⟨(hA5.cell (World.block_lt_of_cell? _ _ HCF4.o.1)).trans HCF4.o.1,HCF4.o.2.stay hA5⟩
 have HS1:Hid (Row w5 (some ⟨w4.heap.size,0,none⟩) (jX I) 32):=by
  have hx:=HB5.o
  rw[hD.o] at hx
  have:=iV.row (T:=53) (l:=jX I) hx (by rw[gZ];decide)
  rwa[gZ] at this
 obtain⟨r,hr⟩:=AV (w.heap.size)
 obtain⟨t6,ht6⟩:=AV (w4.heap.size)
 rw[←ht6] at HS1 ⊢
 have htr:t6≠r:=by omega
 rw[←hr] at HX5 hbf HNF B5 ⊢
 obtain⟨F,hF⟩:=AU (((Aq k b).map vb).toArray)
 have HF:Hid (F.size=32):=by rw[Hid,hF.o];simpa using sD k b
 have HFo:Hid (F.all (·.oneCell')=true):=by rw[Hid,hF.o];exact nT _
 obtain⟨M,hM⟩:=AU (jT (jA k) 92)
 have HML:Hid (M.length=64):=by rw[Hid,hM.o,CJ,mO]
 have HFE:Hid (((jX (M++jX I)).map vb).toArray=F):=by rw[Hid,hF.o,hM.o,hI.o];rfl
 clear HA HB0 HX4 HCF4 HB5 HS5 hA5 HD HDo hD hs5 ht6 B4 HR2 hsz1 hsz2 hsz3 hsz4 HN4
 simp only[Act.put,List.setIfInBounds_toArray,List.set_cons_succ,List.set_cons_zero]
 refine jv (fun δ wx=>Save (· ≠r) w5 wx∧wx.heap[r]? =some (.cells (if δ 6 then F else X) 53 (0,0))) (fun _ wx w'=>Save (· ≠r) wx w') (Um r (.func (.func 245) #[] #[.pointer (some ⟨bf,0,none⟩)]) M (M++jX I) (.slice (some ⟨t6,0,none⟩) 32 32) F) AB AB ?_ ?_ ?_ ?_
 ·intro w' hb hh
  exact⟨Save.of hb,by rw[hh];exact HX5.o⟩
 ·intro δ i j o v w1 w2 _ _ _ _ _ _ hG h
  rcases hd:o.dst with _ |d
  ·exact eU hd _ _
  ·rw[fZ hd] at h ⊢
   exact O9 hG h
 ·have hpure:∀ {δ:Nat→Bool} {wx w':World} {i:Nat},(Save (· ≠r) w5 wx∧wx.heap[r]? =some (.cells (if δ 6 then F else X) 53 (0,0)))→Below wx.heap.size wx w'→i≠6→(Save (· ≠r) w5 w'∧w'.heap[r]? =some (.cells (if (upd δ i) 6 then F else X) 53 (0,0))):=by
   intro δ wx w' i h hb hi
   exact⟨h.1.trans (Save.of hb),by rw[aA δ hi,hb.block _ (Array.getElem?_eq_some_iff.1 h.2).1];exact h.2⟩
  repeat' (first |exact aU |refine aI ?_ ?_)
  all_goals intro δ wa wx hk
  ·exact⟨ah rfl,eH (.tmp 5) rfl ⟨Save.refl _ _,hpure hk.inv (Below.refl _ _) AP,hk.o 5⟩⟩
  ·have hrx:r<wx.heap.size:=(Array.getElem?_eq_some_iff.1 hk.inv.2).1
   have hcx:=(hk.inv.1.cell (World.block_lt_of_cell? _ _ HCF5.o.1) (show bf≠r by omega)).trans HCF5.o.1
   have hrow:=HCF5.o.2.save hk.inv.1 (fun g hg=>by have:=HNF.o g hg;omega)
   have hkk:Calls Tryz.prog 245 #[.int .u8 92, .pointer (some ⟨bf,0,none⟩)] wx _:=xX wx bf 92 af (jA k) cf hcx hrow (by rw[mO];decide)
   rw[mO] at hkk
   refine⟨ah rfl,qJ rfl (hk.s 15) #[.int .u8 92] #[.int .u8 92, .pointer (some ⟨bf,0,none⟩)] rfl (fun w=>AB) (by simp[hk.lit]) (hkk.mono ?_)⟩
   rintro e w' ⟨a',c',rfl,hO,hb⟩
   rw[←hM.o] at hO
   exact⟨_,rfl,Save.of hb,hpure hk.inv hb AP,a',c',rfl,hO.isRow,fun g hg=>by have:=(hO.aK hg).1;omega⟩
  ·refine⟨ah rfl,Dv rfl (hk.o 6) rfl rfl rfl (Eb t6 wx) ⟨Save.refl _ _,hpure hk.inv (Below.refl _ _) AP,rfl⟩⟩
  ·obtain⟨a1',c1',e1,r1,n1⟩:=hk.s 16
   have e2:wa.eval (.tmp 17)=_:=hk.s 17
   have hrx:r<wx.heap.size:=(Array.getElem?_eq_some_iff.1 hk.inv.2).1
   have hz:Below wx.heap.size wx (wx.alloc (.cells #[.slice a1' 64 c1', .slice (some ⟨t6,0,none⟩) 32 32] 40)):=(Below.refl _ _).alloc (Nat.le_refl _) _
   refine⟨ah rfl,fA (v:= .slice (some ⟨wx.heap.size,0,none⟩) 2 2) (w':=wx.alloc (.cells #[.slice a1' 64 c1', .slice (some ⟨t6,0,none⟩) 32 32] 40)) ?_ ⟨Save.of hz,hpure hk.inv hz AP,wx.heap.size,a1',c1',rfl,by omega, ?_, ?_,r1.stay hz,n1⟩⟩
   ·exact tZ Q8 [.tmp 16, .tmp 17] [.slice a1' 64 c1', .slice (some ⟨t6,0,none⟩) 32 32] 2 rfl (by simp[e1,e2]) rfl AP (by intro v hv;simp at hv;rcases hv with rfl |rfl<;>rfl) AP wx
   ·rw[World.cell?,heap_alloc_new,HML.o];rfl
   ·rw[World.cell?,heap_alloc_new];rfl
  ·obtain⟨g,a1',c1',e1,hg,q1,q2,r1,n1⟩:=hk.s 18
   have hrx:r<wx.heap.size:=(Array.getElem?_eq_some_iff.1 hk.inv.2).1
   have r2:=HS1.o.save hk.inv.1 (fun g hg=>by simp[Go.Cit.blk] at hg;omega)
   have hs32:(jX I).length=32:=gZ I
   have hct:=Qu wx g (l1:=M) (l2:=jX I) (c2:=32) q1 (by rw[hs32];exact q2) r1 r2 (by rw[HML.o];decide) (by rw[hs32];decide)
   refine⟨ah rfl,bJ rfl (hk.fn _) #[.slice (some ⟨g,0,none⟩) 2 2] (fun w=>AB) (by simp[e1]) (hct.mono ?_)⟩
   rintro e w' ⟨a',c',rfl,hm,hb⟩
   exact⟨_,rfl,Save.of hb,hpure hk.inv hb AP,a',c',rfl,hm.row,fun g' hg'=>by have:=hm.new g' hg';omega⟩
  ·obtain⟨a1',c1',e1,r1,n1⟩:=hk.s 19
   refine⟨ah rfl,bJ rfl (hk.fn _) #[.slice a1' (M++jX I).length c1'] (fun w=>AB) (by simp[e1]) ((rO wx a1' (M++jX I) c1' r1 (by rw[List.length_append,HML.o,gZ];decide)).mono ?_)⟩
   rintro e w' ⟨rfl,hb⟩
   exact⟨_,rfl,Save.of hb,hpure hk.inv hb AP,by rw[HFE.o];rfl⟩
  ·obtain⟨h1,h2⟩:=hk.inv
   rw[hk.yet] at h2
   refine⟨ah rfl,xB iL (.tmp 4) (.tmp 20) rfl (hk.o 4) (hk.s 20) h2 HX.o HF.o HFo.o ?_⟩
   intro w' hb hs
   exact⟨hs,⟨h1.trans hs,by rw[upd_same];exact hb⟩,eU rfl _ _⟩
 intro δ wa wx hall hC hsame hT
 obtain⟨hSv,hcE⟩:=hC
 rw[hall 6 AP,if_pos rfl] at hcE
 have he:=dn hsame [15,16,17,18,19,20] AB
 obtain⟨a16,c16,e16,_⟩:=hT 16 AB
 obtain⟨g18,a18,c18,e18,_⟩:=hT 18 AB
 obtain⟨a19,c19,e19,_⟩:=hT 19 AB
 simp only[List.foldl_cons,List.foldl_nil] at he
 rw[show wa.eval (.tmp 15)=_ from hT 15 AB,e16,show wa.eval (.tmp 17)=_ from hT 17 AB,e18,e19,show wa.eval (.tmp 20)=_ from hT 20 AB] at he
 simp only[Act.put,List.setIfInBounds_toArray,List.set_cons_zero,List.set_cons_succ] at he
 subst he
 clear hT hsame hall e16 e18 e19
 go_wp2_with fail
 refine bodyPost_ret (ig iL rfl rfl hcE HF.o) rfl ⟨by rw[hF.o], ?_⟩
 rw[←hr]
 exact B5.trans (hSv.below (by have:=B5.size;omega) (fun j hj=>by omega))
open Go Go.RowKit Go.Cit
def yG (k s:List UInt8) (zs:List Int):List UInt8:=Aq k (vV s zs)
theorem ER (w:World) (a:Option Addr) (k:List UInt8) (c:Nat) (h:Row w a k c) (hl:k.length≤1000000) (s:List UInt8) (hs9:s.length≤1000) (a2:Option Addr) (zs:List Int) (c2:Nat) (h2:Ints w a2 zs c2) (hz9:zs.length≤1000):
 Calls Tryz.prog 165 #[.slice a k.length c, .string ⟨s.toArray⟩, .slice a2 zs.length c2] w fun e w'=>∃g,e= .returned (.slice (some ⟨g,0,none⟩) 32 32)∧w.heap.size≤g∧iV 53 w' g (yG k s zs)∧Below w.heap.size w w':=by
 have HA:=AQ (fun ρ d ty ps af w=>jL ρ d ty ps (af:=af) w)
 obtain⟨X,hX⟩:=AU (((List.replicate 32 (0:UInt8)).map vb).toArray)
 rw[←hX.o] at HA
 have HX:Hid (X.size=32):=by rw[Hid,hX.o];simp
 have HP:=AQ (BD w s hs9 a2 zs c2 h2 hz9)
 have HK:=AQ h
 have hfl:=zY s zs
 have hf9:(vV s zs).length≤1000000:=by omega
 clear h h2 hfl
 obtain⟨F,hF⟩:=AU (vV s zs)
 rw[←hF.o] at HP hf9
 go_enter Tryz.func165,Tryz.ntmps165
 go_wp2_with fail
 refine HP.o.mono ?_
 rintro e w1 ⟨a1,c1,rfl,hr1,hb1⟩
 have HB1:=AQ hb1
 have HS:=AQ (zK w1 a k c (HK.o.stay hb1) hl a1 F c1 hr1 hf9)
 clear hr1 hb1 HP
 go_wp2_with fail
 refine HS.o.mono ?_
 rintro e w2 ⟨rfl,hb2⟩
 obtain⟨D,hD⟩:=AU (((Aq k F).map vb).toArray)
 rw[←hD.o]
 have HD:Hid (D.size=32):=by rw[Hid,hD.o];simpa using sD k F
 have HDo:Hid (D.all (·.oneCell')=true):=by rw[Hid,hD.o];exact nT _
 have HN2:Hid ((w2.alloc (.cells X 53)).heap[w2.heap.size]? =some (.cells X 53 (0,0))):=heap_alloc_new _ _
 have tA:=Eb w2.heap.size
 have HB2:=AQ (HB1.o.trans (hb2.mono HB1.o.size))
 clear hb2 HS
 go_wp2_with (first
  | ((with_reducible refine aj (o:=⟨some 7, .alloc _,_,_,_,_⟩) AA (HA.o _ _ _ _ _ _) ?_))
  | ((with_reducible refine ay (o:=⟨none, .store _ (.tmp 7) (.tmp 12),_,_,_,_⟩) iL (.tmp 7) (.tmp 12) AA AA AA AA AA HN2.o HX.o HD.o HDo.o ?_);intro w3 hb3 hS3;have HB3:=AQ hb3;have HS3:=AQ hS3;clear hb3 hS3))
 have hs3:=HS3.o.size
 rw[World.size_alloc] at hs3
 have B3':Below w2.heap.size w2 w3:=((Below.refl _ w2).alloc (Nat.le_refl _) (.cells X 53)).trans (HS3.o.below AO (fun j hj=>by omega))
 have B3:=AQ (HB2.o.trans (B3'.mono HB2.o.size))
 have HG:=AQ HB2.o.size
 clear B3' hs3
 go_ret
 refine⟨w2.heap.size,rfl,HG.o, ?_,B3.o⟩
 have:=HB3.o
 rw[hD.o,hF.o] at this
 exact this
open Go Go.RowKit Go.Cit
def FP (M:aV):List (List UInt8):=[int8 M.ver.1,M.prev,int8 M.trial.1,kC (jC M.cfg)]
def headB (M:aV):List UInt8:=(FP M).flatten
theorem jF {M:aV} (h:jK M=true):nJ M.cfg=true:=by
 unfold jK at h;rw[Bool.and_eq_true] at h;exact h.2
theorem mW {M:aV} (hp:M.prev.length=32) (hc:nJ M.cfg=true):(headB M).length=52+(jC M.cfg).length∧(jC M.cfg).length≤3782:=by
 have hcan:=rC hc
 have hlw:=uS M.cfg.ws
 have hlc:=yK M.cfg.cs
 have hlp:=yQ M.cfg.ps hcan.2.2.2
 have h1:(headB M).length=52+(jC M.cfg).length:=by simp[headB,FP,eX,hp,bn];omega
 refine⟨h1, ?_⟩
 have h2:(jC M.cfg).length=24+(M.cfg.ws.flatMap iO).length+(M.cfg.ps.flatMap je).length+(M.cfg.cs.flatMap xU).length:=by
  unfold jC;rw[if_pos hc];unfold rE;simp[eX];omega
 omega
def Uf (w0:Nat) (M:aV) (T:Array Value) (a3:Option Addr) (F:List UInt8) (k3:Nat) (f:Nat→Value):Nat→Value
 | 12=>(.pointer (some ⟨w0,0,none⟩))
 | 13=>(.int .i64 M.ver.1)
 | 15=>(.pointer (some ⟨w0,1,none⟩))
 | 16=>(.agg T)
 | 18=>(.pointer (some ⟨w0,33,none⟩))
 | 19=>(.int .i64 M.trial.1)
 | 21=>(.slice a3 F.length k3)
 | 2=>(f 4)
 | _=>undef
def Ua:Nat→Nat
 | 2=>5
 | _=>0
def U1 (w0:Nat) (_:aV) (_:Array Value) (a3:Option Addr) (F:List UInt8) (k3:Nat):Nat→Value
 | 1=>(.pointer (some ⟨w0,0,none⟩))
 | 3=>(.slice a3 F.length k3)
 | _=>undef
theorem RI (w0:Nat) (M:aV) (T:Array Value) (a3:Option Addr) (F:List UInt8) (k3:Nat):∀d (f g:Nat→Value),(∀j,j<Ua d→f j=g j)→Uf w0 M T a3 F k3 f d=Uf w0 M T a3 F k3 g d:=by
 intro d f g h
 unfold Uf
 split
 ·rfl
 ·rfl
 ·rfl
 ·rfl
 ·rfl
 ·rfl
 ·rfl
 ·rw[h 4 AP]
 ·rfl
theorem Ak (w:World) (M:aV) (h:M.At w) (hcan:jK M=true):Calls Tryz.prog 47 #[.agg (cM M)] w (JQ w (headB M)):=by
 obtain⟨C,hC⟩:=AU (cM M)
 obtain⟨w0,hw0⟩:=AV (w.alloc (.cells C 55))
 have B0:Below w.heap.size w w0:=by rw[hw0];exact(Below.refl _ w).alloc (Nat.le_refl _) _
 have hI:eY w0 w.heap.size M:=by rw[hw0,hC.o];exact eY.new w h
 have d0:=hI.d0
 have d1:=hI.d1
 have d2:=hI.d2
 have HI0:=AQ hI
 have HB0:=AQ B0
 have HLN:=AQ (mW h.p32 (jF hcan))
 obtain⟨F,hF⟩:=AU (jC M.cfg)
 have hp:=Ig w0 M.cfg (h.cfg.stay B0) (kS (jF hcan))
 rw[←hF.o] at hp
 have HP:=AQ hp
 obtain⟨Y,hY⟩:=AU (headB M)
 rw[←hC.o,←hY.o]
 have f3:=OQ w.heap.size
 clear hp hI h B0 hcan
 go_enter Tryz.func47,Tryz.ntmps47
 go_upto_region 1 with fail
 rw[←hw0]
 clear hw0
 go_wp2_with fail
 refine(HP.o).mono ?_
 rintro e w1 ⟨a3,k3,rfl,hr3,hb1⟩
 have HB1:=AQ (HB0.o.trans (hb1.mono HB0.o.size))
 have hI:=AQ (HI0.o.keep hb1)
 have C0:=hI.o.ver
 have C2:=hI.o.trial
 obtain⟨T,hT⟩:=AU ((M.prev.map vb).toArray)
 have C1:∀q:After w1,(Instr.loadAt 53 (.pointer (some ⟨w.heap.size,1,none⟩))).run Tryz.prog q.to= .ok (.agg T) q.to:=fun q=>by rw[hT.o];exact(hI.o.keep q.bel).prev
 obtain⟨fs,hfs⟩:=AV ([int8 M.ver.1,M.prev,int8 M.trial.1,kC F])
 have HRM:Hid (([]:List UInt8).length+ [int8 M.ver.1,M.prev,int8 M.trial.1,kC F].flatten.length≤65536):=by
  have h1:=HLN.o
  have h2:(headB M).length=[int8 M.ver.1,M.prev,int8 M.trial.1,kC F].flatten.length:=by rw[hF.o];rfl
  rw[Hid,←h2,List.length_nil];omega
 clear d0 d1 d2 HI0 HP hb1 f3
 go_upto_region 2 with fail
 subst hfs
 refine qo (Uf w.heap.size M T a3 F k3) Ua (U1 w.heap.size M T a3 F k3) [1,3] [0,3,6,9,11] (kF w1 [] [int8 M.ver.1,M.prev,int8 M.trial.1,kC F]) AB AB AB AB ⟨rfl,rfl,trivial⟩ (RI w.heap.size M T a3 F k3) (kF.start _ _ _) ?_ ?_
 ·repeat' (first |exact aU |refine aI ?_ ?_)
  all_goals intro av vs hk
  ·refine⟨ah rfl, .inl ⟨0,rfl,fun hvs wx hst=> ?_⟩⟩
   refine bJ rfl (hk.fn _) #[] (fun w=>AB) (by rw[List.map_toArray];rfl) (hst.begins hvs (KX _))
  ·exact⟨ah rfl, .inr ⟨by decide,fun s1 s2 hle wx hst=>bF (.tmp 1) rfl (hk.o 1) (v:=(.pointer (some ⟨w.heap.size,0,none⟩))) (fun w=>AB) ⟨hst,rfl⟩⟩⟩
  ·exact⟨ah rfl, .inr ⟨by decide,fun s1 s2 hle wx hst=>bg (.tmp 12) rfl (hk.s 12) (v:=(.int .i64 M.ver.1)) ((fun (q:After _)=>bM (fun w=>AB) (keep q.bel C0)) ⟨wx,hst.bel⟩) ⟨hst,rfl⟩⟩⟩
  ·refine⟨ah rfl, .inl ⟨1,rfl,fun hvs wx hst=> ?_⟩⟩
   refine bJ rfl (hk.fn _) #[oq vs 0, .int .i64 M.ver.1] (fun w=>AB) (by simp only[List.map_toArray,List.map_cons,List.map_nil,(show av.eval (.tmp 11)=oq vs 0 from(hk.line 0 11 AB AB).2),(show av.eval (.tmp 13)=(.int .i64 M.ver.1) from hk.s 13)]) (hst.step (k:=0) hvs (m:=int8 M.ver.1) rfl HRM.o (fun v=> #[v, .int .i64 M.ver.1]) (fun b a X c hw hb9 hr=>dR hw hb9 _ (by have:=eX M.ver.1;omega)))
  ·exact⟨ah rfl, .inr ⟨by decide,fun s1 s2 hle wx hst=>bF (.tmp 1) rfl (hk.o 1) (v:=(.pointer (some ⟨w.heap.size,1,none⟩))) (fun w=>AB) ⟨hst,rfl⟩⟩⟩
  ·exact⟨ah rfl, .inr ⟨by decide,fun s1 s2 hle wx hst=>bg (.tmp 15) rfl (hk.s 15) (v:=(.agg T)) ((fun (q:After _)=>C1 q) ⟨wx,hst.bel⟩) ⟨hst,rfl⟩⟩⟩
  ·refine⟨ah rfl, .inl ⟨2,rfl,fun hvs wx hst=> ?_⟩⟩
   refine bJ rfl (hk.fn _) #[oq vs 1, .agg T] (fun w=>AB) (by simp only[List.map_toArray,List.map_cons,List.map_nil,(show av.eval (.tmp 14)=oq vs 1 from(hk.line 1 14 AB AB).2),(show av.eval (.tmp 16)=(.agg T) from hk.s 16)]) (hst.step (k:=1) hvs (m:=M.prev) rfl HRM.o (fun v=> #[v, .agg T]) (fun b a X c hw hb9 hr=>by rw[hT.o];exact zG hw hb9 _ hI.o.p32 (by have:=hI.o.p32;omega)))
  ·exact⟨ah rfl, .inr ⟨by decide,fun s1 s2 hle wx hst=>bF (.tmp 1) rfl (hk.o 1) (v:=(.pointer (some ⟨w.heap.size,33,none⟩))) (fun w=>AB) ⟨hst,rfl⟩⟩⟩
  ·exact⟨ah rfl, .inr ⟨by decide,fun s1 s2 hle wx hst=>bg (.tmp 18) rfl (hk.s 18) (v:=(.int .i64 M.trial.1)) ((fun (q:After _)=>bM (fun w=>AB) (keep q.bel C2)) ⟨wx,hst.bel⟩) ⟨hst,rfl⟩⟩⟩
  ·refine⟨ah rfl, .inl ⟨3,rfl,fun hvs wx hst=> ?_⟩⟩
   refine bJ rfl (hk.fn _) #[oq vs 2, .int .i64 M.trial.1] (fun w=>AB) (by simp only[List.map_toArray,List.map_cons,List.map_nil,(show av.eval (.tmp 17)=oq vs 2 from(hk.line 2 17 AB AB).2),(show av.eval (.tmp 19)=(.int .i64 M.trial.1) from hk.s 19)]) (hst.step (k:=2) hvs (m:=int8 M.trial.1) rfl HRM.o (fun v=> #[v, .int .i64 M.trial.1]) (fun b a X c hw hb9 hr=>dR hw hb9 _ (by have:=eX M.trial.1;omega)))
  ·exact⟨ah rfl, .inr ⟨by decide,fun s1 s2 hle wx hst=>eH (.tmp 3) rfl ⟨hst,(hk.o 3)⟩⟩⟩
  ·refine⟨ah rfl, .inl ⟨4,rfl,fun hvs wx hst=> ?_⟩⟩
   refine bJ rfl (hk.fn _) #[oq vs 3, .slice a3 F.length k3] (fun w=>AB) (by simp only[List.map_toArray,List.map_cons,List.map_nil,(show av.eval (.tmp 20)=oq vs 3 from(hk.line 3 20 AB AB).2),(show av.eval (.tmp 21)=(.slice a3 F.length k3) from hk.s 21)]) (hst.step (k:=3) hvs (m:=kC F) rfl HRM.o (fun v=> #[v, .slice a3 F.length k3]) (fun b a X c hw hb9 hr=>vX hw hb9 (hr3.stay hst.bel).row (by have:=bn F;omega)))
  ·exact⟨ah rfl, .inr ⟨by decide,fun s1 s2 hle wx hst=>mQ (.tmp 22) rfl ⟨hst,(show av.eval (.tmp 22)=oq vs 4 from(hk.line 4 22 AB AB).2)⟩⟩⟩
 intro av vs w2 hlen9 hfin hsame hall hline
 have he:=dn hsame [11,12,13,14,15,16,17,18,19,20,21,22,2] AB
 simp only[List.foldl_cons,List.foldl_nil] at he
 rw[show av.eval (.tmp 2)=(oq vs 4) from hall 2 AB AB] at he
 generalize av.eval (.tmp 11)=y11 at he
 generalize av.eval (.tmp 12)=y12 at he
 generalize av.eval (.tmp 13)=y13 at he
 generalize av.eval (.tmp 14)=y14 at he
 generalize av.eval (.tmp 15)=y15 at he
 generalize av.eval (.tmp 16)=y16 at he
 generalize av.eval (.tmp 17)=y17 at he
 generalize av.eval (.tmp 18)=y18 at he
 generalize av.eval (.tmp 19)=y19 at he
 generalize av.eval (.tmp 20)=y20 at he
 generalize av.eval (.tmp 21)=y21 at he
 generalize av.eval (.tmp 22)=y22 at he
 simp only[fV] at he
 dsimp only[List.set_cons_zero,List.set_cons_succ] at he
 subst he
 clear hsame hall hline
 obtain⟨b,a,X,c,hv,hX,hW,hb2⟩:=hfin.ended (by rw[hlen9];rfl)
 have hv':oq vs 4= .pointer (some ⟨b,0,none⟩):=hv
 rw[hv']
 go_wp2_with fail
 go_ret
 exact⟨b,a,X,c,by rw[Hid,hX.o,hY.o,headB,FP,←hF.o];rfl,rfl,hW.low HB1.o.size,HB1.o.trans (hb2.mono HB1.o.size)⟩
end Go.Proofs.YtlholdllibghbaaGreat
