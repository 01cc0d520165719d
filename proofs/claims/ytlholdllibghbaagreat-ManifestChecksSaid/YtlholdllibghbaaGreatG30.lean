/- Texts of the proof, one behind the other: CatTwo, Purpose, HmacSum, RefHmac. No condition but those that each names. -/
import Derived.Test.YtlholdllibghbaaGreatG04
import Derived.Test.YtlholdllibghbaaGreatG28
import Derived.Test.YtlholdllibghbaaGreatG27
import Derived.Test.YtlholdllibghbaaGreatG29
import Derived.Test.YtlholdllibghbaaGreatG21
import Derived.StillTailTactics
import Derived.Test.YtlholdllibghbaaGreatKit
set_option maxRecDepth 100000
set_option maxHeartbeats 8000000
namespace Go.Proofs.YtlholdllibghbaaGreat
open Go Go.RowKit Go.Cit
theorem SY (W:World) (g:Nat) {a1 a2:Option Addr} {l1 l2:List UInt8} {c1 c2:Nat} (h1:W.cell? ⟨g,0,none⟩=some (.slice a1 l1.length c1)) (h2:W.cell? ⟨g,1,none⟩=some (.slice a2 l2.length c2)) (r1:Row W a1 l1 c1) (r2:Row W a2 l2 c2) (hl:l1.length≤300000000) (hl2:l2.length≤300000000):
 Calls Tryz.prog 110 #[.slice (some ⟨g,0,none⟩) 2 2] W fun e w'=>∃a cp,e= .returned (.slice a (l1++l2).length cp)∧Mine W.heap.size w' a (l1++l2) cp∧Below W.heap.size W w':=by
 have hP:Lib.PartsAt W ⟨g,0,none⟩ [.slice a1 l1.length c1, .slice a2 l2.length c2] [l1,l2]:=by
  refine⟨rfl,fun i v hv=> ?_,fun i v l hv hl=> ?_⟩
  ·match i with
   | 0=>simp at hv;subst hv;simpa[Addr.add] using h1
   | 1=>simp at hv;subst hv;simpa[Addr.add] using h2
   | i+2=>simp at hv
  ·match i with
   | 0=>simp at hv hl;subst hv hl;exact dQ r1
   | 1=>simp at hv hl;subst hv hl;exact dQ r2
   | i+2=>simp at hv
 refine(lZ W g 0 2 _ _ hP AO (by simp;omega) AO).mono ?_
 rintro e w' ⟨a,cp,rfl,hm,hb⟩
 simp only[List.flatten_cons,List.flatten_nil,List.append_nil] at hm ⊢
 exact⟨a,cp,rfl,hm,hb⟩
open Go Go.RowKit Go.Cit
def Clear (w:World) (a:Option Addr) (d:Sl UInt8):Prop:=Row w d.a d.l d.c∧∀g,Go.Cit.blk d.a=some g→g<w.heap.size∧Go.Cit.blk a≠some g
theorem Clear.grown {w w':World} {a a2:Option Addr} {d:Sl UInt8} (h:Clear w a d) (hg:w.grownBy w' (Go.Cit.blk a)) (hn:iW w.heap.size a a2):Clear w' a2 d:=by
 refine⟨h.1.save (Save.grown hg) (fun g hg' e=>(h.2 g hg').2 e.symm),fun g hg'=>⟨Nat.lt_of_lt_of_le (h.2 g hg').1 hg.size,fun e=> ?_⟩⟩
 rcases hn g e with h1 |h1
 ·exact(h.2 g hg').2 h1
 ·have:=(h.2 g hg').1;omega
theorem Clear.stay {w w':World} {a:Option Addr} {d:Sl UInt8} (h:Clear w a d) (hb:Below w.heap.size w w'):Clear w' a d:=
 ⟨h.1.stay hb,fun g hg=>⟨Nat.lt_of_lt_of_le (h.2 g hg).1 hb.size,(h.2 g hg).2⟩⟩
theorem PL {W:World} {b o:Nat} {ds:List (Sl UInt8)} {c:Nat} (h:Vec sf 1 W (some ⟨b,o,none⟩) ds c) (hr:∀d∈ds,Row W d.a d.l d.c):Lib.PartsAt W ⟨b,o,none⟩ (ds.map sv) (ds.map (·.l)):=by
 refine⟨by simp,fun i v hv=> ?_,fun i v l hv hl=> ?_⟩
 ·rw[List.getElem?_map] at hv
  obtain⟨d,hd,rfl⟩:=Option.map_eq_some_iff.1 hv
  obtain⟨hi,rfl⟩:=List.getElem?_eq_some_iff.1 hd
  have:=h.cell1 (v:=sv) i hi
  simpa[ad,Addr.add_mid] using this
 ·rw[List.getElem?_map] at hv hl
  obtain⟨d,hd,rfl⟩:=Option.map_eq_some_iff.1 hv
  obtain⟨d2,hd2,rfl⟩:=Option.map_eq_some_iff.1 hl
  obtain rfl:d=d2:=by rw[hd] at hd2;exact Option.some.inj hd2
  exact dQ (hr d (List.mem_of_getElem? hd))
theorem wG (s:List UInt8) (zs:List Int):(kN s zs).length=s.length+1+8*zs.length:=by
 unfold kN
 rw[List.length_append,List.length_append]
 congr 1
 induction zs with
 | nil=>rfl
 | cons z zs ih=>rw[List.map_cons,List.flatten_cons,List.length_append,ih,aG,List.length_cons];omega
theorem string_size {w w1:World} {l:List UInt8} {v:Value} (h:(convert 9 40 (.string ⟨l.toArray⟩)).run Tryz.prog w= .ok v w1):w1.heap.size=w.heap.size+1:=by
 have hr:=Lib.run_convert_string_bytes (P:=Tryz.prog) w 9 40 5 ⟨l.toArray⟩ Tryz.underlying9 Tryz.underlying40 Tryz.underlying5
 have he:=hr.symm.trans h
 simp only[Result.ok.injEq] at he
 rw[←he.2,Lib.bytesWorld_size]
theorem Ep (w:World) (s:List UInt8) (hs9:s.length≤1000) (a:Option Addr) (zs:List Int) (c:Nat) (h:Ints w a zs c) (hz9:zs.length≤1000):
 Calls Tryz.prog 220 #[.string ⟨s.toArray⟩, .slice a zs.length c] w fun e w'=>∃a' c',e= .returned (.slice a' (kN s zs).length c')∧Row w' a' (kN s zs) c'∧Below w.heap.size w w':=by
 have HSP:=AQ (vW w s AL)
 have HZ:=AQ h
 obtain⟨n,hn⟩:=AU zs.length
 rw[←hn.o]
 have hn9:n≤1000:=by rw[hn.o];exact hz9
 clear h
 obtain⟨c1,w1,hr1,hS1,hb1⟩:=HSP.o
 have HS1:=AQ hS1
 have HB1:=AQ hb1
 clear hS1 hb1 HSP
 go_enter Tryz.func220,Tryz.ntmps220
 go_wp2_with fail
 obtain⟨d0,hd0⟩:∃d0:Sl UInt8,Hid (d0=⟨some ⟨w.heap.size,0,none⟩,c1,s⟩):=⟨_,rfl⟩
 obtain⟨d1,hd1⟩:∃d1:Sl UInt8,Hid (d1=⟨some ⟨w1.heap.size,0,none⟩,1,[0]⟩):=⟨_,rfl⟩
 obtain⟨ds0,hds0⟩:∃ds0:List (Sl UInt8),Hid (ds0=[d0,d1]):=⟨_,rfl⟩
 obtain⟨wx,hwx⟩:=AU (w1.alloc (.cells #[.int .u8 0] 5))
 have HBX:Hid (Below w1.heap.size w1 wx):=by rw[hwx.o];exact(Below.refl _ _).alloc (Nat.le_refl _) _
 have HXS:Hid (wx.heap.size=w1.heap.size+1):=by rw[Hid,hwx.o];simp
 have HLT:Hid (Row wx (some ⟨w1.heap.size,0,none⟩) [0] 1):=by rw[hwx.o];exact(mJ w1 #[.int .u8 0] 5 [0] (by rfl) AO).isRow
 have HV0:Hid (aZ sf 1 40 wx.heap.size (wx.alloc (.cells #[.slice (some ⟨w.heap.size,0,none⟩) s.length c1, .slice (some ⟨w1.heap.size,0,none⟩) 1 1] 40)) (some ⟨wx.heap.size,0,none⟩) ds0 ds0.length):=by
  refine jJ wx _ _ 1 ds0 KL ?_ (by rw[hds0.o];simp)
  rw[hds0.o,hd0.o,hd1.o]
  rfl
 have HSZ:=AQ HB1.o.size
 have HZ1:=AQ (string_size hr1)
 have HXB:Hid (Below w.heap.size w wx):=HB1.o.trans (HBX.o.mono HSZ.o)
 have HSX:=AQ (HS1.o.stay HBX.o)
 rw[←hwx.o]
 have e1:w1.heap.size+1=wx.heap.size:=HXS.o.symm
 rw[e1]
 clear e1
 obtain⟨wy,hwy⟩:=AU (wx.alloc (.cells #[.slice (some ⟨w.heap.size,0,none⟩) s.length c1, .slice (some ⟨w1.heap.size,0,none⟩) 1 1] 40))
 rw[←hwy.o] at HV0 ⊢
 have HYB0:Hid (Below wx.heap.size wx wy):=by rw[hwy.o];exact(Below.refl _ _).alloc (Nat.le_refl _) _
 have HYB:Hid (Below w.heap.size w wy):=HXB.o.trans (HYB0.o.mono HXB.o.size)
 have HYS:Hid (wy.heap.size=wx.heap.size+1):=by rw[Hid,hwy.o];simp
 have HC0:Hid (∀d∈ds0,Clear wy (some ⟨wx.heap.size,0,none⟩) d):=by
  rw[hds0.o]
  have h1:=HXS.o
  have h2:=HYS.o
  have h3:=HZ1.o
  have h4:=HYB0.o
  intro d hd
  rcases List.mem_cons.1 hd with rfl |hd
  ·rw[hd0.o]
   refine⟨(HSX.o.stay h4),fun g hg=> ?_⟩
   simp[Go.Cit.blk] at hg ⊢
   omega
  ·obtain rfl:d=d1:=by simpa using hd
   rw[hd1.o]
   refine⟨(HLT.o.stay h4),fun g hg=> ?_⟩
   simp[Go.Cit.blk] at hg ⊢
   omega
 have HL0:Hid (ds0.length=2):=by rw[Hid,hds0.o];rfl
 clear hwx hwy
 go_loopw [5,14] (fun t i wr=>∃(k:Nat) (a':Option Addr) (c':Nat) (ds:List (Sl UInt8)),Hid (ds.map (·.l)=s:: [0]::(zs.take k).map fun z=>rowB (IE z) 8)∧Hid (ds.length=2+k)∧k≤n∧i= .int .i64 k∧t= .slice a' ds.length c'∧Hid (aZ sf 1 40 w.heap.size wr a' ds c')∧Hid (∀d∈ds,Clear wr a' d)∧Hid (Below w.heap.size w wr)) (fun _ i _=>n-(intOf i).toNat)
 case atStart=>exact⟨0,_,2,ds0,by rw[Hid,hds0.o,hd0.o,hd1.o];rfl,HL0,Nat.zero_le _,rfl,by rw[HL0.o],by have:=HV0.o;rw[HL0.o] at this;exact this.low HXB.o.size,HC0,HYB⟩
 case round=>
  obtain⟨k,a',c',ds,HX,HL,hk,rfl,rfl,HO,HCl,HB⟩:=hrel
  by_cases hlt:k<n
  ·have hkz:k<zs.length:=by rw[←hn.o];exact hlt
   have hZ:=HZ.o.stay HB.o
   have i0:=hZ.index k hkz
   have e0:=hZ.cell k hkz
   rw[←hn.o] at i0
   obtain⟨z,hz⟩:∃z,Hid (z=zs[k]):=⟨zs[k],rfl⟩
   rw[←hz.o] at e0
   clear hZ
   have hc:=um wr (IE z)
   go_wp2_with fail
   rw[Qb z]
   refine Calls.mono hc ?_
   rintro e w4 ⟨a4,c4,rfl,hO4,hb4⟩
   have hbs:=HB.o.size
   have hbk:∀ {g:Nat},Go.Cit.blk a4=some g→wr.heap.size≤g∧g<w4.heap.size:=fun hg=>hO4.aU hg
   have HO4:Hid (Row w4 a4 (rowB (IE z) 8) c4):=hO4.isRow
   have HOs:=AQ (HO.o.stay hb4)
   have HB4:=AQ (HB.o.trans (hb4.mono hbs))
   have HR8:=AQ (aG (IE z) 8)
   obtain⟨y,hy⟩:∃y:Sl UInt8,Hid (y=⟨a4,c4,rowB (IE z) 8⟩):=⟨_,rfl⟩
   have HCY:Hid (∀d∈ds++ [y],Clear w4 a' d):=by
    intro d hd
    rcases List.mem_append.1 hd with hd |hd
    ·exact(HCl.o d hd).stay hb4
    ·obtain rfl:d=y:=by simpa using hd
     rw[hy.o]
     refine⟨HO4.o,fun g hg=>⟨(hbk hg).2,fun e=> ?_⟩⟩
     have h1:=(hbk hg).1
     have h2:=(HO.o.aU e).2
     omega
   have HYC:Hid (#[Value.slice a4 8 c4]=(sf y).toArray):=by rw[Hid,hy.o];show _= #[Value.slice a4 (rowB (IE z) 8).length c4];rw[HR8.o]
   obtain⟨ds2,hds2⟩:∃ds2,Hid (ds2=ds++ [y]):=⟨ds++ [y],rfl⟩
   have HNX:Hid (ds2.map (·.l)=s:: [0]::(zs.take (k+1)).map fun z=>rowB (IE z) 8):=by
    rw[Hid,hds2.o,List.map_append,HX.o,hy.o,←take_snoc zs k hkz,List.map_append,←hz.o];rfl
   have HL8:Hid (ds2.length=2+(k+1)):=by rw[Hid,hds2.o,List.length_append,HL.o];rfl
   have hdl:ds.length+1≤1000000000:=by rw[HL.o];omega
   clear hO4 hb4 hbs hc hbk
   rw[←hds2.o] at HCY
   go_wp2_with (first
    | ((with_reducible refine bW (o:=⟨some 23, .call _,_,_,_,_⟩) TT KL Uj (y:=y) (.tmp 18) (.tmp 22) AA AA HOs.o HYC.o hdl HB4.o.size AA AA ?_);intro a5 c5 w5 hO5 hg5 hn5;rw[←hds2.o] at hO5 ⊢;have HO5:=AQ hO5;have HB5:=AQ (HB4.o.trans (HOs.o.grown hg5 HB4.o.size));have HC5:Hid (∀d∈ds2,Clear w5 a5 d):=(fun d hd=>(HCY.o d hd).grown hg5 hn5);clear hO5 hg5 hn5))
   go_roundw
   case rel=>exact⟨k+1,a5,c5,ds2,HNX,HL8,by omega,by go_num,rfl,HO5,HC5,HB5⟩
   case measure=>simp[intOf];omega
  ·have hk2:k=n:=by omega
   subst hk2
   have hV:=HO.o.vec KL
   obtain⟨b,off,rfl⟩:=hV.spot (by intro h0;have:=HL.o;rw[h0] at this;simp at this;omega)
   have hF:(ds.map (·.l)).flatten=kN s zs:=by
    rw[HX.o,hn.o,List.take_length]
    unfold kN
    simp
   have hcc:=lZ wr b off c' (ds.map sv) (ds.map (·.l)) (PL hV (fun d hd=>(HCl.o d hd).1)) (by rw[List.length_map];exact hV.le) (by rw[hF,wG];omega) (by rw[List.length_map,HL.o];omega)
   rw[hF,List.length_map] at hcc
   have HCC:=AQ hcc
   clear hcc hF hV
   go_wp2_with fail
   refine HCC.o.mono ?_
   rintro e w6 ⟨a6,c6,rfl,hm6,hb6⟩
   have HM6:=AQ hm6.row
   have HB6:=AQ (HB.o.trans (hb6.mono HB.o.size))
   clear hm6 hb6
   go_wp2_with fail
   go_ret
   exact⟨a6,c6,rfl,HM6.o,HB6.o⟩
open Go Go.RowKit Go.Cit
section
variable {P:Program} {w:World} {o:Oper} {ρ:Operand→Value} {post:Value→World→Prop}
theorem tN {f:FuncId} {x:Operand} {xs:Array Operand} {ts:Array TypeId} {cap:Array Value} (h:o.op= .call {callee:= .value x,args:=xs,argTypes:=ts}) (hf:ρ x= .func (.func f) #[] cap)
 (args all:Array Value) (hall:args++cap=all) (hcf:∀w,(callFunc f all).run P w= .ok (.enter f all) w) (ha:xs.map ρ=args) (hc:Calls P f all w fun e w''=>∃v,e= .returned v∧post v w''):dn P post ((execOp ρ o).run P w):=by
 unfold execOp;rw[h];dsimp only;unfold resolve;dsimp only;rw[hf,ha]
 have e2:(invoke (.fn (.func f) cap) args:Sem Next).run P w= .ok (.enter f all) w:=by
  unfold invoke;dsimp only;rw[hall];exact hcf w
 simp only[Deferred.ofValue,Sem.run_bind,Sem.run_pure,Result.andThen,Array.empty_append,e2]
 exact hc
end
def iJ (l:List UInt8) (by_:UInt8):List UInt8:=l.map fun x=>vC x by_
def iR (k:List UInt8):List UInt8:=Gs (iQ k) 64
theorem jW (k:List UInt8):(iR k).length=64:=by
 have:=rH k
 unfold iR Gs
 rw[List.length_append,List.length_replicate];omega
def vI (k b:List UInt8):List UInt8:=jg (iJ (iR k) 92++jg (iJ (iR k) 54++b))
theorem oD (k b:List UInt8):(vI k b).length=32:=eX _
theorem Q9 (l:List UInt8) (x:UInt8) (k:Nat) (h:k<l.length):(iJ (l.take k) x++l.drop k)[k]? =some l[k]:=by
 have hl:(iJ (l.take k) x).length=k:=by unfold iJ;rw[List.length_map,List.length_take];omega
 rw[List.getElem?_append_right AL,hl,Nat.sub_self,List.drop_eq_getElem_cons h];rfl
theorem QH (l:List UInt8) (x:UInt8) (k:Nat) (h:k<l.length):(iJ (l.take k) x++l.drop k).set k (vC l[k] x)=iJ (l.take (k+1)) x++l.drop (k+1):=by
 have hl:(iJ (l.take k) x).length=k:=by unfold iJ;rw[List.length_map,List.length_take];omega
 rw[List.set_append_right _ _ AL,hl,Nat.sub_self,List.drop_eq_getElem_cons h,List.set_cons_zero,List.take_succ_eq_append_getElem h]
 unfold iJ
 rw[List.map_append,List.append_assoc];rfl
theorem qJ (l:List UInt8) (x:UInt8):(iJ l x).length=l.length:=by simp[iJ]
theorem zV (w:World) (b:Nat) (x:UInt8) (a:Option Addr) (l:List UInt8) (c:Nat) (hc:w.cell? ⟨b,0,none⟩=some (.slice a l.length c)) (h:Row w a l c) (hl:l.length≤1000000):
 Calls Tryz.prog 245 #[vb x, .pointer (some ⟨b,0,none⟩)] w fun e w'=>∃a' c',e= .returned (.slice a' l.length c')∧Cit.Own 5 w.heap.size w' a' (iJ l x) c'∧Below w.heap.size w w':=by
 have HC:=AQ (rF w a l c h AL)
 clear h
 go_enter Tryz.func245,Tryz.ntmps245
 go_wp2_with fail
 refine HC.o.mono ?_
 rintro e w1 ⟨a1,c1,rfl,hO1,hb1⟩
 clear hc HC
 go_wp2_with fail
 go_loopw [10] (fun i wr=>∃(k:Nat) (m:List UInt8),k≤l.length∧i= .int .i64 k∧Hid (m.length=l.length)∧Hid (m=iJ (l.take k) x++l.drop k)∧Cit.Own 5 w.heap.size wr a1 m c1∧Below w.heap.size w wr) (fun i _=>l.length-(intOf i).toNat)
 case atStart=>exact⟨0,l,Nat.zero_le _,rfl,rfl,by simp[Hid,iJ],hO1,hb1⟩
 case round=>
  clear hO1 hb1
  obtain⟨k,m,hk,rfl,HML,HM,hO,B⟩:=hrel
  by_cases hlt:k<l.length
  ·have d1:decide (k<l.length)=true:=by simpa using hlt
   have hkm:k<m.length:=by rw[HML.o];exact hlt
   have hr:=hO.isRow
   have ik:=hr.index bt.slice bt.sz k hkm
   have ek:=hr.cell k hkm
   have fk:=hO.frozen k hkm
   obtain⟨hst,hgr⟩:=Cit.Own.stored hO k hkm (vC m[k] x)
   have hmk:m[k]=l[k]:=by
    have h1:=Q9 l x k hlt
    rw[←HM.o,List.getElem?_eq_getElem hkm] at h1
    exact Option.some.inj h1
   have HS:Hid (m.set k (vC m[k] x)=iJ (l.take (k+1)) x++l.drop (k+1)):=by
    rw[Hid,hmk,HM.o,QH l x k hlt]
   have HO2:=AQ hst
   have HB2:=AQ (B.trans (grown_below hgr B.size (fun j hj=>(hO.aU hj).1)))
   rw[HML.o] at ik
   obtain⟨y,hy⟩:∃y,m[k]=y:=⟨_,rfl⟩
   rw[hy] at ek HO2 HB2 HS
   clear hst hgr hmk hy hr hkm hO
   go_wp2_with fail
   go_roundw
   case rel=>exact⟨k+1,_,by omega,by go_num,by rw[Hid,List.length_set];exact HML.o,HS,HO2.o,HB2.o⟩
   case measure=>simp[intOf];omega
  ·have d1:decide (k<l.length)=false:=by simpa using hlt
   have HM2:Hid (m=iJ l x):=by
    rw[Hid,HM.o,List.take_of_length_le AL,List.drop_of_length_le AL,List.append_nil]
   go_wp2_with fail
   go_ret
   exact⟨a1,c1,rfl,by rw[←HM2.o];exact hO,B⟩
theorem I7 (w:World) (a:Option Addr) (k:List UInt8) (c:Nat) (h:Row w a k c) (hl:k.length≤10000000):
 Calls Tryz.prog 219 #[.slice a k.length c] w fun e w'=>∃b a' c',e= .returned (.func (.func 245) #[] #[.pointer (some ⟨b,0,none⟩)])∧w'.cell? ⟨b,0,none⟩=some (.slice a' (iR k).length c')∧Row w' a' (iR k) c'∧w.heap.size≤b∧(∀g,Go.Cit.blk a'=some g→w.heap.size≤g)∧Below w.heap.size w w':=by
 have hmf:∀(fn:Fn) (first cap:Array Value) (w:World),(Instr.makeFunc fn first cap).run Tryz.prog w= .ok (.func fn first cap) w:=fun _ _ _ _=>rfl
 have HS:=AQ (Jt w a k c h hl)
 clear h
 go_enter Tryz.func219,Tryz.ntmps219
 go_wp2_with fail
 refine HS.o.mono ?_
 rintro e w1 ⟨a1,c1,rfl,hO1,hb1⟩
 have hsl:=rH k
 have HP:=AQ (Gz w1 a1 (iQ k) c1 64 hO1.isRow AL AP)
 clear hO1 hsl
 go_wp2_with fail
 refine HP.o.mono ?_
 rintro e w2 ⟨a2,c2,rfl,hm2,hb2⟩
 have hR:Row w2 a2 (iR k) c2:=hm2.row
 have HNW:Hid (∀g,Go.Cit.blk a2=some g→w.heap.size≤g):=fun g hg=>Nat.le_trans hb1.size (hm2.new g hg)
 have HR:=AQ hR
 have HB2:=AQ (hb1.trans (hb2.mono hb1.size))
 rw[show Gs (iQ k) 64=iR k from rfl]
 clear hR hm2 hb1 hb2
 go_wp2_with fail
 go_ret
 have hz:Below w2.heap.size w2 (w2.alloc (.cells #[.slice a2 (iR k).length c2] 40)):=(Below.refl _ _).alloc (Nat.le_refl _) _
 refine⟨w2.heap.size,a2,c2,rfl, ?_,HR.o.stay hz,HB2.o.size,HNW.o,HB2.o.trans (hz.mono HB2.o.size)⟩
 rw[World.cell?,heap_alloc_new];rfl
def V5 (r:Nat) (vf:Value) (M L:List UInt8) (vs:Value) (D:Array Value):Nat→Value→World→Prop
 | 15,v,_=>v=vf
 | 16,v,w=>∃a c,v= .slice a 64 c∧Row w a M c∧∀g,Go.Cit.blk a=some g→g≠r
 | 17,v,_=>v=vs
 | 18,v,w=>∃g a c,v= .slice (some ⟨g,0,none⟩) 2 2∧g≠r∧w.cell? ⟨g,0,none⟩=some (.slice a M.length c)∧w.cell? ⟨g,1,none⟩=some vs∧Row w a M c∧∀g',Go.Cit.blk a=some g'→g'≠r
 | 19,v,w=>∃a c,v= .slice a L.length c∧Row w a L c∧∀g,Go.Cit.blk a=some g→g≠r
 | 20,v,_=>v= .agg D
 | _,_,_=>True
theorem PN {r:Nat} {vf:Value} {M L:List UInt8} {vs:Value} {D:Array Value} {d:Nat} {v:Value} {wx w':World} (hG:Save (· ≠r) wx w') (h:V5 r vf M L vs D d v wx):V5 r vf M L vs D d v w':=by
 unfold V5 at h ⊢
 split at h<;>try exact h
 ·obtain⟨a,c,h1,h2,h3⟩:=h
  exact⟨a,c,h1,h2.save hG h3,h3⟩
 ·obtain⟨g,a,c,h1,h2,h3,h4,h5,h6⟩:=h
  exact⟨g,a,c,h1,h2,(hG.cell (World.block_lt_of_cell? _ _ h3) h2).trans h3,(hG.cell (World.block_lt_of_cell? _ _ h4) h2).trans h4,h5.save hG h6,h6⟩
 ·obtain⟨a,c,h1,h2,h3⟩:=h
  exact⟨a,c,h1,h2.save hG h3,h3⟩
theorem Dt (w:World) (a:Option Addr) (k:List UInt8) (c:Nat) (h:Row w a k c) (hl:k.length≤1000000) (a2:Option Addr) (b:List UInt8) (c2:Nat) (h2:Row w a2 b c2) (hl2:b.length≤1000000):
 Calls Tryz.prog 164 #[.slice a k.length c, .slice a2 b.length c2] w fun e w'=>e= .returned (.agg ((vI k b).map vb).toArray)∧Below w.heap.size w w':=by
 have HA:=AQ (fun ρ d ty ps af w=>jM ρ d ty ps (af:=af) w)
 obtain⟨X,hX⟩:=AU (((List.replicate 32 (0:UInt8)).map vb).toArray)
 rw[←hX.o] at HA
 have HX:Hid (X.size=32):=by rw[Hid,hX.o];simp
 have B0:Below w.heap.size w (w.alloc (.cells X 53)):=(Below.refl _ _).alloc (Nat.le_refl _) _
 have x0:(w.alloc (.cells X 53)).heap[w.heap.size]? =some (.cells X 53 (0,0)):=heap_alloc_new w _
 have HB0:=AQ (And.intro x0 B0)
 have HM0:=AQ (I7 _ a k c (h.stay B0) AL)
 have HR0:=AQ (h2.stay B0)
 clear B0 x0 h h2
 go_enter Tryz.func164,Tryz.ntmps164
 go_wp2_with (first
  | ((with_reducible refine aj (o:=⟨some 4, .alloc _,_,_,_,_⟩) AA (HA.o _ _ _ _ _ _) ?_)))
 refine HM0.o.mono ?_
 rintro e w1 ⟨bf,af,cf,rfl,hcf,hrf,hbf,hnf,hb1⟩
 rw[World.size_alloc] at hbf
 have hnf':∀g,Go.Cit.blk af=some g→w.heap.size+1≤g:=fun g hg=>by have:=hnf g hg;simp at this;omega
 have hsz1:w.heap.size<w1.heap.size:=by have:=hb1.size;simp at this;omega
 have HX1:Hid (w1.heap[w.heap.size]? =some (.cells X 53 (0,0))):=(hb1.block _ AO).trans HB0.o.1
 have B1:=HB0.o.2.trans (hb1.mono AO)
 have HR1:=AQ (HR0.o.stay hb1)
 have hk:Calls Tryz.prog 245 #[.int .u8 54, .pointer (some ⟨bf,0,none⟩)] w1 _:=zV w1 bf 54 af (iR k) cf hcf hrf (by rw[jW];decide)
 rw[jW] at hk
 have HK:=AQ hk
 have HCF:=AQ (And.intro hcf (And.intro hrf hnf'))
 clear hb1 hcf hrf hnf hnf' HM0 HR0 hk
 go_wp2_with fail
 refine HK.o.mono ?_
 rintro e w2 ⟨a3,c3,rfl,hO3,hb2⟩
 have B2:=B1.trans (hb2.mono B1.size)
 have HX2:Hid (w2.heap[w.heap.size]? =some (.cells X 53 (0,0))):=(hb2.block _ hsz1).trans HX1.o
 have hsz2:w.heap.size<w2.heap.size:=by have:=hb2.size;omega
 have HR2:=AQ (HR1.o.stay hb2)
 have HCF2:Hid (w2.cell? ⟨bf,0,none⟩=some (.slice af (iR k).length cf)∧Row w2 af (iR k) cf):=⟨(hb2.cell (World.block_lt_of_cell? _ _ HCF.o.1)).trans HCF.o.1,HCF.o.2.1.stay hb2⟩
 have HNF:=AQ HCF.o.2.2
 have hm64:(iJ (iR k) 54).length=64:=by rw[qJ,jW]
 have hc2:=wL w2 40 hO3.isRow HR2.o (by rw[hm64];decide) AL
 rw[hm64] at hc2
 have HC2:=AQ hc2
 clear hb2 B1 hO3 HX1 HR1 HK HCF hc2
 go_wp2_with fail
 refine HC2.o.mono ?_
 rintro e w3 ⟨a4,c4,rfl,hm4,hb3⟩
 have B3:=B2.trans (hb3.mono B2.size)
 have hsz3:w.heap.size<w3.heap.size:=by have:=hb3.size;omega
 have HX3:Hid (w3.heap[w.heap.size]? =some (.cells X 53 (0,0))):=(hb3.block _ hsz2).trans HX2.o
 have HCF3:Hid (w3.cell? ⟨bf,0,none⟩=some (.slice af (iR k).length cf)∧Row w3 af (iR k) cf):=⟨(hb3.cell (World.block_lt_of_cell? _ _ HCF2.o.1)).trans HCF2.o.1,HCF2.o.2.stay hb3⟩
 obtain⟨I,hI⟩:=AU (iJ (iR k) 54++b)
 rw[←hI.o] at hm4 ⊢
 have hIl:I.length≤2000000:=by rw[hI.o,List.length_append,hm64];omega
 have HS3:=AQ (uZ w3 a4 I c4 hm4.row AL)
 clear hb3 B2 hm4 HX2 HCF2 HC2 hm64
 go_wp2_with fail
 refine HS3.o.mono ?_
 rintro e w4 ⟨rfl,hb4⟩
 have B4:=B3.trans (hb4.mono B3.size)
 have hsz4:w.heap.size<w4.heap.size:=by have:=hb4.size;omega
 have HX4:Hid (w4.heap[w.heap.size]? =some (.cells X 53 (0,0))):=(hb4.block _ hsz3).trans HX3.o
 have HCF4:Hid (w4.cell? ⟨bf,0,none⟩=some (.slice af (iR k).length cf)∧Row w4 af (iR k) cf):=⟨(hb4.cell (World.block_lt_of_cell? _ _ HCF3.o.1)).trans HCF3.o.1,HCF3.o.2.stay hb4⟩
 obtain⟨D,hD⟩:=AU (((jg I).map vb).toArray)
 rw[←hD.o]
 have HD:Hid (D.size=32):=by rw[Hid,hD.o];simpa using eX I
 have HDo:Hid (D.all (·.oneCell')=true):=by rw[Hid,hD.o];exact mF _
 have HN4:Hid ((w4.alloc (.cells X 53)).heap[w4.heap.size]? =some (.cells X 53 (0,0))):=heap_alloc_new _ _
 clear hb4 B3 HX3 HCF3 HS3
 go_wp2_with (first
  | ((with_reducible refine aj (o:=⟨some 6, .alloc _,_,_,_,_⟩) AA (HA.o _ _ _ _ _ _) ?_))
  | ((with_reducible refine au (o:=⟨none, .store _ (.tmp 6) (.tmp 14),_,_,_,_⟩) iw (.tmp 6) (.tmp 14) AA AA AA AA AA HN4.o HX.o HD.o HDo.o ?_);intro w5 hb5 hS5;have HB5:=AQ hb5;have HS5:=AQ hS5;clear hb5 hS5))
 have hs5:=HS5.o.size
 rw[World.size_alloc] at hs5
 have hA5:Below w4.heap.size w4 w5:=((Below.refl _ w4).alloc (Nat.le_refl _) (.cells X 53)).trans (HS5.o.below AO (fun j hj=>by omega))
 have B5:=B4.trans (hA5.mono B4.size)
 have HX5:Hid (w5.heap[w.heap.size]? =some (.cells X 53 (0,0))):=(hA5.block _ hsz4).trans HX4.o
 have HCF5:Hid (w5.cell? ⟨bf,0,none⟩=some (.slice af (iR k).length cf)∧Row w5 af (iR k) cf):=⟨(hA5.cell (World.block_lt_of_cell? _ _ HCF4.o.1)).trans HCF4.o.1,HCF4.o.2.stay hA5⟩
 have HS1:Hid (Row w5 (some ⟨w4.heap.size,0,none⟩) (jg I) 32):=by
  have hx:=HB5.o
  rw[hD.o] at hx
  have:=je.row (T:=53) (l:=jg I) hx (by rw[eX];decide)
  rwa[eX] at this
 obtain⟨r,hr⟩:=AV (w.heap.size)
 obtain⟨t6,ht6⟩:=AV (w4.heap.size)
 rw[←ht6] at HS1 ⊢
 have htr:t6≠r:=by omega
 rw[←hr] at HX5 hbf HNF B5 ⊢
 obtain⟨F,hF⟩:=AU (((vI k b).map vb).toArray)
 have HF:Hid (F.size=32):=by rw[Hid,hF.o];simpa using oD k b
 have HFo:Hid (F.all (·.oneCell')=true):=by rw[Hid,hF.o];exact mF _
 obtain⟨M,hM⟩:=AU (iJ (iR k) 92)
 have HML:Hid (M.length=64):=by rw[Hid,hM.o,qJ,jW]
 have HFE:Hid (((jg (M++jg I)).map vb).toArray=F):=by rw[Hid,hF.o,hM.o,hI.o];rfl
 clear HA HB0 HX4 HCF4 HB5 HS5 hA5 HD HDo hD hs5 ht6 B4 HR2 hsz1 hsz2 hsz3 hsz4 HN4
 simp only[Act.put,List.setIfInBounds_toArray,List.set_cons_succ,List.set_cons_zero]
 refine jU (fun δ wx=>Save (· ≠r) w5 wx∧wx.heap[r]? =some (.cells (if δ 6 then F else X) 53 (0,0))) (fun _ wx w'=>Save (· ≠r) wx w') (V5 r (.func (.func 245) #[] #[.pointer (some ⟨bf,0,none⟩)]) M (M++jg I) (.slice (some ⟨t6,0,none⟩) 32 32) F) AB AB ?_ ?_ ?_ ?_
 ·intro w' hb hh
  exact⟨Save.of hb,by rw[hh];exact HX5.o⟩
 ·intro δ i j o v w1 w2 _ _ _ _ _ _ hG h
  rcases hd:o.dst with _ |d
  ·exact eG hd _ _
  ·rw[gV hd] at h ⊢
   exact PN hG h
 ·have hpure:∀ {δ:Nat→Bool} {wx w':World} {i:Nat},(Save (· ≠r) w5 wx∧wx.heap[r]? =some (.cells (if δ 6 then F else X) 53 (0,0)))→Below wx.heap.size wx w'→i≠6→(Save (· ≠r) w5 w'∧w'.heap[r]? =some (.cells (if (upd δ i) 6 then F else X) 53 (0,0))):=by
   intro δ wx w' i h hb hi
   exact⟨h.1.trans (Save.of hb),by rw[aA δ hi,hb.block _ (Array.getElem?_eq_some_iff.1 h.2).1];exact h.2⟩
  repeat' (first |exact aQ |refine aB ?_ ?_)
  all_goals intro δ wa wx hk
  ·exact⟨ah rfl,dN (.tmp 5) rfl ⟨Save.refl _ _,hpure hk.inv (Below.refl _ _) AP,hk.o 5⟩⟩
  ·have hrx:r<wx.heap.size:=(Array.getElem?_eq_some_iff.1 hk.inv.2).1
   have hcx:=(hk.inv.1.cell (World.block_lt_of_cell? _ _ HCF5.o.1) (show bf≠r by omega)).trans HCF5.o.1
   have hrow:=HCF5.o.2.save hk.inv.1 (fun g hg=>by have:=HNF.o g hg;omega)
   have hkk:Calls Tryz.prog 245 #[.int .u8 92, .pointer (some ⟨bf,0,none⟩)] wx _:=zV wx bf 92 af (iR k) cf hcx hrow (by rw[jW];decide)
   rw[jW] at hkk
   refine⟨ah rfl,tN rfl (hk.s 15) #[.int .u8 92] #[.int .u8 92, .pointer (some ⟨bf,0,none⟩)] rfl (fun w=>AB) (by simp[hk.lit]) (hkk.mono ?_)⟩
   rintro e w' ⟨a',c',rfl,hO,hb⟩
   rw[←hM.o] at hO
   exact⟨_,rfl,Save.of hb,hpure hk.inv hb AP,a',c',rfl,hO.isRow,fun g hg=>by have:=(hO.aU hg).1;omega⟩
  ·refine⟨ah rfl,EJ rfl (hk.o 6) rfl rfl rfl (FY t6 wx) ⟨Save.refl _ _,hpure hk.inv (Below.refl _ _) AP,rfl⟩⟩
  ·obtain⟨a1',c1',e1,r1,n1⟩:=hk.s 16
   have e2:wa.eval (.tmp 17)=_:=hk.s 17
   have hrx:r<wx.heap.size:=(Array.getElem?_eq_some_iff.1 hk.inv.2).1
   have hz:Below wx.heap.size wx (wx.alloc (.cells #[.slice a1' 64 c1', .slice (some ⟨t6,0,none⟩) 32 32] 40)):=(Below.refl _ _).alloc (Nat.le_refl _) _
   refine⟨ah rfl,gu (v:= .slice (some ⟨wx.heap.size,0,none⟩) 2 2) (w':=wx.alloc (.cells #[.slice a1' 64 c1', .slice (some ⟨t6,0,none⟩) 32 32] 40)) ?_ ⟨Save.of hz,hpure hk.inv hz AP,wx.heap.size,a1',c1',rfl,by omega, ?_, ?_,r1.stay hz,n1⟩⟩
   ·exact wM TT [.tmp 16, .tmp 17] [.slice a1' 64 c1', .slice (some ⟨t6,0,none⟩) 32 32] 2 rfl (by simp[e1,e2]) rfl AP (by intro v hv;simp at hv;rcases hv with rfl |rfl<;>rfl) AP wx
   ·rw[World.cell?,heap_alloc_new,HML.o];rfl
   ·rw[World.cell?,heap_alloc_new];rfl
  ·obtain⟨g,a1',c1',e1,hg,q1,q2,r1,n1⟩:=hk.s 18
   have hrx:r<wx.heap.size:=(Array.getElem?_eq_some_iff.1 hk.inv.2).1
   have r2:=HS1.o.save hk.inv.1 (fun g hg=>by simp[Go.Cit.blk] at hg;omega)
   have hs32:(jg I).length=32:=eX I
   have hct:=SY wx g (l1:=M) (l2:=jg I) (c2:=32) q1 (by rw[hs32];exact q2) r1 r2 (by rw[HML.o];decide) (by rw[hs32];decide)
   refine⟨ah rfl,bQ rfl (hk.fn _) #[.slice (some ⟨g,0,none⟩) 2 2] (fun w=>AB) (by simp[e1]) (hct.mono ?_)⟩
   rintro e w' ⟨a',c',rfl,hm,hb⟩
   exact⟨_,rfl,Save.of hb,hpure hk.inv hb AP,a',c',rfl,hm.row,fun g' hg'=>by have:=hm.new g' hg';omega⟩
  ·obtain⟨a1',c1',e1,r1,n1⟩:=hk.s 19
   refine⟨ah rfl,bQ rfl (hk.fn _) #[.slice a1' (M++jg I).length c1'] (fun w=>AB) (by simp[e1]) ((uZ wx a1' (M++jg I) c1' r1 (by rw[List.length_append,HML.o,eX];decide)).mono ?_)⟩
   rintro e w' ⟨rfl,hb⟩
   exact⟨_,rfl,Save.of hb,hpure hk.inv hb AP,by rw[HFE.o];rfl⟩
  ·obtain⟨h1,h2⟩:=hk.inv
   rw[hk.yet] at h2
   refine⟨ah rfl,oL iw (.tmp 4) (.tmp 20) rfl (hk.o 4) (hk.s 20) h2 HX.o HF.o HFo.o ?_⟩
   intro w' hb hs
   exact⟨hs,⟨h1.trans hs,by rw[upd_same];exact hb⟩,eG rfl _ _⟩
 intro δ wa wx hall hC hsame hT
 obtain⟨hSv,hcE⟩:=hC
 rw[hall 6 AP,if_pos rfl] at hcE
 have he:=bn hsame [15,16,17,18,19,20] AB
 obtain⟨a16,c16,e16,_⟩:=hT 16 AB
 obtain⟨g18,a18,c18,e18,_⟩:=hT 18 AB
 obtain⟨a19,c19,e19,_⟩:=hT 19 AB
 simp only[List.foldl_cons,List.foldl_nil] at he
 rw[show wa.eval (.tmp 15)=_ from hT 15 AB,e16,show wa.eval (.tmp 17)=_ from hT 17 AB,e18,e19,show wa.eval (.tmp 20)=_ from hT 20 AB] at he
 simp only[Act.put,List.setIfInBounds_toArray,List.set_cons_zero,List.set_cons_succ] at he
 subst he
 clear hT hsame hall e16 e18 e19
 go_wp2_with fail
 refine bodyPost_ret (iC iw rfl rfl hcE HF.o) rfl ⟨by rw[hF.o], ?_⟩
 rw[←hr]
 exact B5.trans (hSv.below (by have:=B5.size;omega) (fun j hj=>by omega))
open Go Go.RowKit Go.Cit
theorem nH (w:World) (l:List UInt8) (hl:l.length=32):
 Calls Tryz.prog 127 #[.agg (l.map vb).toArray] w fun e w'=>∃a c,e= .returned (.slice a 32 c)∧Cit.Own 5 w.heap.size w' a l c∧Below w.heap.size w w':=by
 have HLL:=AQ hl
 have b0:je 53 (w.alloc (.cells (l.map vb).toArray 53)) w.heap.size l:=heap_alloc_new w _
 have B0:Below w.heap.size w (w.alloc (.cells (l.map vb).toArray 53)):=(Below.refl _ w).alloc (Nat.le_refl _) _
 have HB:=AQ (And.intro b0 B0)
 obtain⟨C,hC⟩:=AU ((l.map vb).toArray)
 rw[←hC.o] at HB ⊢
 clear b0 B0 hl
 go_enter Tryz.func127,Tryz.ntmps127
 go_wp2_with (first
  | ((with_reducible refine kP (o:=⟨some 1, .box _ (.tmp 0),_,_,_,_⟩) (.tmp 0) AA AA AA ?_)))
 obtain⟨b0,B0⟩:=HB.o
 go_loopw [3,4] (fun v i wr=>∃(k:Nat) (m:List UInt8) (a:Option Addr) (c:Nat),k≤32∧i= .int .i64 k∧v= .slice a m.length c∧Hid (m=l.take k)∧Cit.Own 5 (w.heap.size+1) wr a m c∧je 53 wr w.heap.size l∧Below w.heap.size w wr) (fun _ i _=>32-(intOf i).toNat)
 case atStart=>exact⟨0,[],none,0,by omega,rfl,rfl,rfl,Cit.Own.nil _ _ _,b0,B0⟩
 case round=>
  clear b0 B0
  obtain⟨k,m,a,c,hk,rfl,rfl,HM,hO,A1,B⟩:=hrel
  have HML:Hid (m.length=k):=by rw[Hid,HM.o,List.length_take,HLL.o];omega
  by_cases hlt:k<32
  ·have d1:decide ((k:Int)<32)=true:=by simp;omega
   have hkl:k<l.length:=by rw[HLL.o];exact hlt
   have ik:=fun W=>qY (T:=53) (n:=32) Tryz.underlying53 w.heap.size k hlt W
   have ek:=A1.cell k hkl
   have HS:Hid (m++ [l[k]]=l.take (k+1)):=by rw[Hid,HM.o,List.take_succ_eq_append_getElem hkl]
   have hm9:m.length≤1000000000:=by rw[HML.o];omega
   have hbs:w.heap.size+1≤wr.heap.size:=A1.lt
   generalize l[k]=x at ek HS
   clear hkl
   go_wp2_with (first
    | ((with_reducible refine lF (o:=⟨some 14, .call _,_,_,_,_⟩) bt (.tmp 9) (.tmp 13) AA AA (b:=x) AA hO hm9 hbs AA AA ?_);intro a2 c2 w2 hO2 hg2;have HO2:=AQ hO2;have HA2:Hid (je 53 w2 w.heap.size l):=A1.save (Save.grown hg2) (fun h=>Nat.not_succ_le_self _ (hO.aU (g:=w.heap.size) h.symm).1);have HB2:=AQ (B.trans ((grown_below hg2 hbs (fun j hj=>(hO.aU hj).1)).mono (Nat.le_succ _)));clear hO2 hg2))
   go_roundw
   case rel=>exact⟨k+1,_,_,_,by omega,by go_num,by simp,HS,HO2.o,HA2.o,HB2.o⟩
   case measure=>simp[intOf];omega
  ·have hk2:k=32:=by omega
   have d1:decide ((k:Int)<32)=false:=by simp;omega
   have HM2:Hid (m=l):=by rw[Hid,HM.o,hk2,List.take_of_length_le (by rw[HLL.o];omega)]
   have hm32:Hid (m.length=32):=by rw[Hid,HML.o,hk2]
   clear hk2
   go_wp2_with fail
   go_ret
   refine⟨a,c, ?_, ?_,B⟩
   ·show Ending.returned (.slice a m.length c)=_
    rw[hm32.o]
   ·rw[←HM2.o];exact hO.low (Nat.le_succ _)
theorem DN (w:World) (a:Option Addr) (k:List UInt8) (c:Nat) (h:Row w a k c) (hl:k.length≤1000000):
 Calls Tryz.prog 211 #[.slice a k.length c] w fun e w'=>∃a' c',e= .returned (.slice a' (iQ k).length c')∧Cit.Own 5 w.heap.size w' a' (iQ k) c'∧Below w.heap.size w w':=by
 by_cases h64:64<k.length
 ·have d1:decide ((k.length:Int)≤64)=false:=by simp;omega
  have d1':decide (k.length≤64)=false:=by simp;omega
  have HE:Hid (iQ k=jg k):=by rw[Hid,iQ,if_pos h64]
  have HS:=AQ (nU w a k c h AL)
  clear h
  rw[HE.o]
  go_enter Tryz.func211,Tryz.ntmps211
  go_wp2_with fail
  refine HS.o.mono ?_
  rintro e w1 ⟨rfl,hb1⟩
  go_wp2_with fail
  refine(nH w1 (jg k) (eX k)).mono ?_
  rintro e w2 ⟨a2,c2,rfl,hO2,hb2⟩
  go_wp2_with fail
  go_ret
  exact⟨a2,c2,by rw[eX];rfl,hO2.low hb1.size,hb1.trans (hb2.mono hb1.size)⟩
 ·have d1:decide ((k.length:Int)≤64)=true:=by simp;omega
  have d1':decide (k.length≤64)=true:=by simp;omega
  have HE:Hid (iQ k=k):=by rw[Hid,iQ,if_neg h64]
  have HC:=AQ (wZ w a k c h AL)
  clear h
  rw[HE.o]
  go_enter Tryz.func211,Tryz.ntmps211
  go_wp2_with fail
  refine HC.o.mono ?_
  rintro e w4 ⟨a4,c4,rfl,hO4,hb4⟩
  go_wp2_with fail
  go_ret
  exact⟨a4,c4,rfl,hO4,hb4⟩
theorem Ot (k:List UInt8) (i:Nat) (hi:i<64):(iR k)[i]? =some (if h:i<(iQ k).length then (iQ k)[i] else 0):=by
 have hs:=rH k
 unfold iR Gs
 by_cases h:i<(iQ k).length
 ·rw[List.getElem?_append_left h,dif_pos h,List.getElem?_eq_getElem h]
 ·rw[List.getElem?_append_right AL,dif_neg h,List.getElem?_replicate,if_pos AL]
theorem BU (l:List UInt8) (x:UInt8) (i:Nat) (y:UInt8) (h:l[i]? =some y):iJ (l.take i) x++ [vC y x]=iJ (l.take (i+1)) x:=by
 obtain⟨hi,rfl⟩:=List.getElem?_eq_some_iff.1 h
 unfold iJ
 rw[List.take_succ_eq_append_getElem hi,List.map_append];rfl
theorem sQ (w:World) (a:Option Addr) (k:List UInt8) (c:Nat) (h:Row w a k c) (hl:k.length≤1000000) (x:UInt8):
 Calls Tryz.prog 153 #[.slice a k.length c,vb x] w fun e w'=>∃a' c',e= .returned (.slice a' 64 c')∧Cit.Own 5 w.heap.size w' a' (iJ (iR k) x) c'∧Below w.heap.size w w':=by
 have HS:=AQ (DN w a k c h hl)
 have hsl:=rH k
 have HG:=AQ (Ot k)
 have HLK:=AQ (jW k)
 obtain⟨L,hL⟩:=AU (iR k)
 obtain⟨s,hs⟩:=AU (iQ k)
 rw[←hs.o] at HS hsl HG
 rw[←hL.o] at HG HLK ⊢
 clear h
 go_enter Tryz.func153,Tryz.ntmps153
 go_wp2_with fail
 refine HS.o.mono ?_
 rintro e w1 ⟨a1,c1,rfl,hO1,hb1⟩
 have HR1:=AQ hO1.isRow
 have HB1:=AQ hb1
 clear hO1 hb1
 go_wp2_with fail
 go_loopw [6,7] (fun v i wr=>∃(j:Nat) (m:List UInt8) (a:Option Addr) (c:Nat),j≤64∧i= .int .i64 j∧v= .slice a m.length c∧Hid (m=iJ (L.take j) x)∧Cit.Own 5 w1.heap.size wr a m c∧Below w1.heap.size w1 wr) (fun _ i _=>64-(intOf i).toNat)
 case atStart=>exact⟨0,[],none,0,by omega,rfl,rfl,rfl,Cit.Own.nil _ _ _,Below.refl _ _⟩
 case round=>
  obtain⟨j,m,a',c',hj,rfl,rfl,HM,hO,B⟩:=hrel
  have HML:Hid (m.length=j):=by rw[Hid,HM.o,qJ,List.length_take,HLK.o];omega
  by_cases hlt:j<64
  ·have d1:decide ((j:Int)<64)=true:=by simp;omega
   have hg:=HG.o j hlt
   have hm9:m.length≤1000000000:=by rw[HML.o];omega
   have hr:=HR1.o.stay B
   by_cases hjs:j<s.length
   ·have d2:decide (j<s.length)=true:=by simpa using hjs
    rw[dif_pos hjs] at hg
    have ij:=hr.index bt.slice bt.sz j hjs
    have ej:=hr.cell j hjs
    have HS2:Hid (m++ [vC s[j] x]=iJ (L.take (j+1)) x):=by rw[Hid,HM.o,BU L x j s[j] hg]
    generalize s[j]=y at ej HS2
    clear hg hr
    go_wp2_with (first
     | ((with_reducible refine lF (o:=⟨some 28, .call _,_,_,_,_⟩) bt (.tmp 23) (.tmp 27) AA AA (b:=vC y x) AA hO hm9 B.size AA AA ?_);intro a2 c2 w2 hO2 hg2;have HO2:=AQ hO2;have HB2:=AQ (B.trans (grown_below hg2 B.size (fun j hj=>(hO.aU hj).1)));clear hO2 hg2))
    go_roundw
    case rel=>exact⟨j+1,_,_,_,by omega,by go_num,by simp,HS2,HO2.o,HB2.o⟩
    case measure=>simp[intOf];omega
   ·have d2:decide (j<s.length)=false:=by simpa using hjs
    rw[dif_neg hjs] at hg
    have HS2:Hid (m++ [vC 0 x]=iJ (L.take (j+1)) x):=by rw[Hid,HM.o,BU L x j 0 hg]
    have hx0:bits .xor .u8 0 (x.toNat:Int)=((vC 0 x).toNat:Int):=by
     have:=Dq 0 x
     exact this
    clear hg hr
    go_wp2_with (first
     | ((with_reducible refine lF (o:=⟨some 28, .call _,_,_,_,_⟩) bt (.tmp 23) (.tmp 27) AA AA (b:=vC 0 x) AA hO hm9 B.size AA AA ?_);intro a2 c2 w2 hO2 hg2;have HO2:=AQ hO2;have HB2:=AQ (B.trans (grown_below hg2 B.size (fun j hj=>(hO.aU hj).1)));clear hO2 hg2))
    go_roundw
    case rel=>exact⟨j+1,_,_,_,by omega,by go_num,by simp,HS2,HO2.o,HB2.o⟩
    case measure=>simp[intOf];omega
  ·have hj2:j=64:=by omega
   have d1:decide ((j:Int)<64)=false:=by simp;omega
   have HM2:Hid (m=iJ L x):=by rw[Hid,HM.o,hj2,List.take_of_length_le (by rw[HLK.o];omega)]
   have hm64:Hid (m.length=64):=by rw[Hid,HML.o,hj2]
   clear hj2
   go_wp2_with fail
   go_ret
   refine⟨a',c', ?_, ?_,HB1.o.trans (B.mono HB1.o.size)⟩
   ·show Ending.returned (.slice a' m.length c')=_
    rw[hm64.o]
   ·rw[←HM2.o];exact hO.low HB1.o.size
end Go.Proofs.YtlholdllibghbaaGreat
