/- StateFresh: the walk of the law. -/
import Derived.Test.YtlholdllibghbaaGreatStZ
import Derived.Test.YtlholdllibghbaaGreatG12
import Derived.Test.YtlholdllibghbaaGreatKit
set_option maxRecDepth 100000
set_option maxHeartbeats 8000000
namespace Go.Proofs.YtlholdllibghbaaGreat
open Go Go.RowKit Go.Cit
theorem Af {w:World} {d:nS.D} (h:nS.ok w d):∀x∈(zO d).ps,x.img.length≤140737488351232:=by
 obtain⟨_,h2,_,_⟩:=h
 intro x hx
 obtain⟨y,hy,rfl⟩:=List.mem_map.1 hx
 obtain⟨i,hi,rfl⟩:=List.mem_iff_getElem.1 hy
 have h3:=(h2.2.2.2.2 i hi).2
 generalize d.2.1.l[i]=z at h3
 obtain⟨x1,⟨x2,x3,⟨⟩⟩,x4,⟨a,c,l⟩,⟨⟩⟩:=z
 obtain⟨_,_,_,h5,_⟩:=h3
 exact Nat.le_trans h5.1.le h5.2
theorem Ed (n:Nat) (m:List UInt8) (h:m.length≤n) (j:Nat) (hj:j<n):(jJ n m)[j]? =some (if h:j<m.length then m[j] else 0):=by
 unfold jJ over
 by_cases h1:j<m.length
 ·rw[dif_pos h1,List.getElem?_append_left h1,List.getElem?_eq_getElem h1]
 ·rw[dif_neg h1,List.getElem?_append_right AL,List.getElem?_drop,List.getElem?_replicate,if_pos AL]
theorem GY (w:World):(Op.equalIn 10000 39 (.agg #[.int .u32 0, .int .u32 0, .int .u32 0, .int .u32 0, .int .u32 0, .int .u32 0, .int .u32 0, .int .u32 0]) (.agg #[.int .u32 0, .int .u32 0, .int .u32 0, .int .u32 0, .int .u32 0, .int .u32 0, .int .u32 0, .int .u32 0])).run Tryz.prog w= .ok true w:=by kernel_rfl
theorem qF (w:World) (V:aZ) (h:V.At w) (hb:∀x∈V.ps,x.img.length≤140737488351232):Calls Tryz.prog 3 #[.agg #[.slice V.wa V.ws.length V.wc, .slice V.pa V.ps.length V.pc, .slice V.ca V.cs.length V.cc]] w fun e w'=>e= .returned (.bool true)∧Below w.heap.size w w':=by
 obtain⟨B,hB⟩:=AV (w.heap.size)
 obtain⟨CV,hCV⟩:∃CV:Array Value,Hid (CV= #[.slice V.wa V.ws.length V.wc, .slice V.pa V.ps.length V.pc, .slice V.ca V.cs.length V.cc]):=⟨_,rfl⟩
 rw[←hCV.o]
 obtain⟨w0,hw0⟩:=AV (w.alloc (.cells CV 26))
 have B0:Below w.heap.size w w0:=by rw[hw0];exact(Below.refl _ w).alloc (Nat.le_refl _) _
 have hx0:w0.heap[B]? =some (.cells CV 26 (0,0)):=by rw[hw0,hB];exact heap_alloc_new _ _
 have HLC:Hid (∀W,W.heap[B]? =some (.cells CV 26 (0,0))→(Instr.loadAt 26 (.pointer (some ⟨B,0,none⟩))).run Tryz.prog W= .ok (.agg CV) W):=fun W hc=>by
  rw[hCV.o] at hc ⊢
  exact jG (fun w=>AB) (fun w=>AB) (ak hc 0 rfl) (ak hc 1 rfl) (ak hc 2 rfl)
 have hC2:Hid (CV.size=3):=by rw[Hid,hCV.o];rfl
 obtain⟨g,hg⟩:=AU (kV V)
 have hk:=tH w0 V (h.stay B0) hb
 rw[←hCV.o,←hg.o] at hk
 have HK:=AQ hk
 have H0:=AQ (And.intro (h.stay B0) (And.intro hx0 B0))
 have L0:=AQ (HLC.o w0 hx0)
 have hl1:=h.pts.aI
 have hl2:=h.BU.aI
 clear h B0 hx0 hk
 go_enter Tryz.func3,Tryz.ntmps3
 go_upto_region 1 with fail
 rw[←hw0,←hB]
 have HBB:=AQ hB
 clear hw0 hB
 go_wp2_with (with_reducible refine ku (o:=⟨some 10, .load _ (.tmp 1),_,_,_,_⟩) L0.o ?_)
 refine(HK.o).mono ?_
 rintro e w1 ⟨rfl,hb1⟩
 have H1:=AQ (And.intro (H0.o.1.stay hb1) (And.intro (ay H0.o.2.1 hb1) (H0.o.2.2.trans (hb1.mono H0.o.2.2.size))))
 clear hb1 HK L0
 cases g with
 |
  true=>
  have HA:=AQ (iL w1)
  go_wp2_with fail
  refine(HA.o).mono ?_
  rintro e w2 ⟨rfl,hb2⟩
  have HE:=AQ (H1.o.2.2.trans (hb2.mono H1.o.2.2.size))
  clear hb2
  go_wp2_with fail
  go_ret
  exact⟨rfl,HE.o⟩
 |
  false=>
  have HSM:=AQ (D7 hg.o.symm)
  obtain⟨f,hf⟩:=AU (fitsV V)
  obtain⟨F,hF⟩:∃F:Int,Hid (F=if f then 0 else 2):=⟨_,rfl⟩
  have hk:Calls Tryz.prog 10 #[.agg CV] w1 fun e w'=>∃s:bU,∃Y,Hid (Y=(dO s).toArray)∧e= .returned (.tuple #[.agg Y, .int .i64 F])∧Hid (s.fG=if f then fU V.cfg else jL.fG)∧s.At w'∧Below w1.heap.size w1 w':=by
   rw[hCV.o,hF.o,hf.o]
   exact(nX w1 V H1.o.1 HSM.o).mono fun e w' ⟨s,h1,h2,h3,h4⟩=>⟨s,_,rfl,h1,h2,h3,h4⟩
  have HK:=AQ hk
  have L1:=AQ (HLC.o w1 H1.o.2.1)
  clear hk
  go_upto_region 3 with fail
  go_wp2_with (with_reducible refine ku (o:=⟨some 14, .load _ (.tmp 1),_,_,_,_⟩) L1.o ?_)
  refine(HK.o).mono ?_
  rintro e w2 ⟨s,Y,HY,rfl,Hs,hsA,hb2⟩
  obtain⟨p3,hp3⟩:=AV (w2.heap.size)
  obtain⟨w3,hw3⟩:=AV (w2.alloc (.cells Y 32))
  have hb3:Below w2.heap.size w2 w3:=by rw[hw3];exact(Below.refl _ _).alloc (Nat.le_refl _) _
  have hc3:w3.heap[p3]? =some (.cells Y 32 (0,0)):=by rw[hw3,hp3];exact heap_alloc_new _ _
  have HZ:=AQ (y3 HY.o)
  have hbb:=hb2.trans (hb3.mono hb2.size)
  have H3:=AQ (And.intro (H1.o.1.stay hbb) (And.intro (ay H1.o.2.1 hbb) (And.intro hc3 (And.intro (hsA.stay hb3) (H1.o.2.2.trans (hbb.mono H1.o.2.2.size))))))
  have hk:Calls Tryz.prog 11 #[.agg CV] w3 fun e w'=>e= .returned (.bool f)∧Below w3.heap.size w3 w':=by
   rw[hCV.o,hf.o];exact lg w3 V H3.o.1 HSM.o
  have HK2:=AQ hk
  have L3:=AQ (HLC.o w3 H3.o.2.1)
  clear hb2 hb3 hc3 hbb hsA hk HK L1
  go_upto_region 4 with (with_reducible refine yU (d:=3) (X:=Y) dF qY HZ.o.1 HZ.o.2 ?_)
  rw[←hw3,←hp3]
  have HP3:=AQ hp3
  clear hw3 hp3
  go_wp2_with (with_reducible refine ku (o:=⟨some 18, .load _ (.tmp 1),_,_,_,_⟩) L3.o ?_)
  refine(HK2.o).mono ?_
  rintro e w4 ⟨rfl,hb4⟩
  have H4:=AQ (And.intro (H3.o.1.stay hb4) (And.intro (ay H3.o.2.1 hb4) (And.intro (ay H3.o.2.2.1 hb4) (And.intro (H3.o.2.2.2.1.stay hb4) (H3.o.2.2.2.2.trans (hb4.mono H3.o.2.2.2.2.size))))))
  have L4:=AQ (rE HY.o H4.o.2.2.1)
  clear hb4 HK2 L3
  cases f with
  |
   false=>
   have hF2:F=2:=hF.o
   have Hs2:Hid (s.fG=jL.fG):=Hs.o
   subst hF2
   have hk:Calls Tryz.prog 12 #[.agg Y, .agg #[.int .i64 0, .slice none 0 0, .slice none 0 0]] w4 fun e w'=>e= .returned (.bool true)∧Below w4.heap.size w4 w':=by
    have:=nP w4 s jL H4.o.2.2.2.1 ⟨Vec.nil_ _,fun x hx=>by simp at hx,Vec.nil_ _,fun x hx=>by simp at hx⟩
    rw[decide_eq_true Hs2.o] at this
    rw[HY.o];exact this
   have HK:=AQ hk
   clear hk
   go_wp2_with (with_reducible refine oz (o:=⟨some 24, .load _ (.tmp 3),_,_,_,_⟩) L4.o ?_)
   refine(HK.o).mono ?_
   rintro e w5 ⟨rfl,hb5⟩
   have HA:=AQ (iL w5)
   have HB5:=AQ (H4.o.2.2.2.2.trans (hb5.mono H4.o.2.2.2.2.size))
   clear hb5 HK L4
   go_wp2_with fail
   refine(HA.o).mono ?_
   rintro e w6 ⟨rfl,hb6⟩
   have HE:=AQ (HB5.o.trans (hb6.mono HB5.o.size))
   clear hb6
   go_wp2_with fail
   go_ret
   exact⟨rfl,HE.o⟩
  |
   true=>
   have hF2:F=0:=hF.o
   have Hs2:Hid (s.fG=fU V.cfg):=Hs.o
   subst hF2
   have hk:Calls Tryz.prog 13 #[.agg Y, .agg CV] w4 fun e w'=>e= .returned (.bool true)∧Below w4.heap.size w4 w':=by
    have:=qZ w4 s V H4.o.2.2.2.1 H4.o.1 HSM.o
    rw[zF,Hs2.o,D9 hf.o.symm] at this
    rw[HY.o,hCV.o];exact this
   have HK:=AQ hk
   have LC:=AQ (HLC.o w4 H4.o.2.1)
   clear hk
   go_wp2_with (first
    | (with_reducible refine oz (o:=⟨some 34, .load _ (.tmp 3),_,_,_,_⟩) L4.o ?_)
    | (with_reducible refine oz (o:=⟨some 35, .load _ (.tmp 1),_,_,_,_⟩) LC.o ?_))
   refine(HK.o).mono ?_
   rintro e w5 ⟨rfl,hb5⟩
   have H5:=AQ (And.intro (H4.o.1.stay hb5) (And.intro (ay H4.o.2.1 hb5) (And.intro (ay H4.o.2.2.1 hb5) (And.intro (H4.o.2.2.2.1.stay hb5) (H4.o.2.2.2.2.trans (hb5.mono H4.o.2.2.2.2.size))))))
   clear hb5 HK L4 LC
   have hfr:s.fr.1=0:=congrArg (fun z:Ah=>z.fr.1) Hs2.o
   have hps:s.ps.map aK.prt=V.ps.map fun x=>fM x.pt:=by
    have h1:s.fG.ps=(fU V.cfg).ps:=by rw[Hs2.o]
    unfold fU aZ.cfg bU.fG at h1
    dsimp only at h1
    rw[h1,List.map_map];rfl
   have hqs:s.qs.map bF.kC=V.cs.map jS:=by
    have h1:s.fG.qs=(fU V.cfg).qs:=by rw[Hs2.o]
    exact h1
   have hpl:s.ps.length=V.ps.length:=by simpa using congrArg List.length hps
   have hql:s.qs.length=V.cs.length:=by simpa using congrArg List.length hqs
   have hy:=H5.o.2.2.1
   rw[HY.o] at hy
   have hcv:=H5.o.2.1
   rw[hCV.o] at hcv
   have d0:w5.cell? ⟨p3,0,none⟩=some (.int .i64 0):=by rw[←hfr];exact ak hy 0 rfl
   have d1:w5.cell? ⟨p3,1,none⟩=some (.slice s.pa V.ps.length s.pc):=by rw[←hpl];exact ak hy 1 rfl
   have d2:w5.cell? ⟨p3,2,none⟩=some (.slice s.qa V.cs.length s.qc):=by rw[←hql];exact ak hy 2 rfl
   have e1:w5.cell? ⟨B,1,none⟩=some (.slice V.pa V.ps.length V.pc):=ak hcv 1 rfl
   have e2:w5.cell? ⟨B,2,none⟩=some (.slice V.ca V.cs.length V.cc):=ak hcv 2 rfl
   have HPS:=AQ (And.intro hps (And.intro hqs (And.intro hpl hql)))
   have HD:=AQ (And.intro d1 (And.intro d2 (And.intro e1 e2)))
   have HG:=AQ (qh.1 (of_decide_eq_true (show decide (errs V=[])=true from hf.o.symm)))
   clear hfr hps hqs hpl hql hy hcv
   go_upto_region 9 with fail
   go_loopw [5] (fun i wr=>∃k:Nat,i= .int .i64 (k:Int)∧k≤V.ps.length∧Below w5.heap.size w5 wr) (fun i _=>V.ps.length-(intOf i).toNat)
   case atStart=>exact⟨0,rfl,Nat.zero_le _,Below.refl _ _⟩
   case round=>
    obtain⟨k,rfl,hk,BL⟩:=hrel
    have HB:=AQ BL
    by_cases hlt:k<V.ps.length
    ·have hlt':k<s.ps.length:=by rw[HPS.o.2.2.1];exact hlt
     have d1:=keep BL HD.o.1
     have i0:∀W:World,(Instr.indexAt 29 (.slice s.pa V.ps.length s.pc) (.int .i64 (k:Int))).run Tryz.prog W= .ok (.pointer (some (ad s.pa (k*14)))) W:=by rw[←HPS.o.2.2.1];exact H5.o.2.2.2.1.pts.index dD k hlt'
     obtain⟨x,hx⟩:∃x,Hid (x=s.ps[k]):=⟨s.ps[k],rfl⟩
     obtain⟨y,hy⟩:∃y,Hid (y=V.ps[k]):=⟨V.ps[k],rfl⟩
     have L1:Hid ((Instr.loadAt 42 (.pointer (some (ad s.pa (k*14))))).run Tryz.prog wr= .ok (.agg (cP x)) wr):=by rw[hx.o];exact H5.o.2.2.2.1.pts.gV dD jo aH BL k hlt'
     have hxy:x.prt=fM y.pt:=by
      have h1:(s.ps.map aK.prt)[k]? =(V.ps.map fun x=>fM x.pt)[k]? :=by rw[HPS.o.1]
      rw[List.getElem?_map,List.getElem?_map,List.getElem?_eq_getElem hlt',List.getElem?_eq_getElem hlt] at h1
      rw[hx.o,hy.o];exact Option.some.inj h1
     obtain⟨p6,hp6⟩:=AV (wr.heap.size)
     obtain⟨wb,hwb⟩:=AV (wr.alloc (.cells (cP x) 42))
     have hbb:Below wr.heap.size wr wb:=by rw[hwb];exact(Below.refl _ _).alloc (Nat.le_refl _) _
     have hcb:wb.heap[p6]? =some (.cells (cP x) 42 (0,0)):=by rw[hwb,hp6];exact heap_alloc_new _ _
     have B2:=BL.trans (hbb.mono BL.size)
     have hreg:=HG.o.reg V.ps[k] (List.getElem_mem hlt)
     rw[←hy.o] at hreg
     obtain⟨n,hn⟩:∃n:Nat,Hid (y.reg.size.1=(n:Int)):=⟨y.reg.size.1.toNat,by have:=of_decide_eq_true hreg.1;rw[Hid];omega⟩
     have hni:Hid (y.img.length≤n):=by have:=hn.o;have:=hreg.2;rw[Hid];omega
     have hmem:Hid (x.mem=jJ n y.img):=by
      have h1:x.mem=jJ y.reg.size.1.toNat y.img:=congrArg (fun p:qg=>p.mem) hxy
      rw[Hid,h1,hn.o];rfl
     have hlen:Hid ((x.mem.length:Int)=y.reg.size.1):=by rw[Hid,hmem.o,ni hni.o,hn.o]
     have q11:∀q:After wb,q.to.cell? ⟨p6,11,none⟩=some (.int .u32 0):=fun q=>q.cell (by
      rw[ak hcb 11 (Gi _ (k:=0) rfl)]
      show some (vw x.pc)=_
      rw[show x.pc=0 from congrArg (fun p:qg=>p.pc) hxy];rfl)
     have q12:∀q:After wb,q.to.cell? ⟨p6,12,none⟩=some (.int .u8 0):=fun q=>q.cell (by
      rw[ak hcb 12 (Gi _ (k:=1) rfl)]
      show some (vb x.st)=_
      rw[show x.st=0 from congrArg (fun p:qg=>p.st) hxy];rfl)
     have c13:wb.cell? ⟨p6,13,none⟩=some (.slice x.a x.mem.length x.c):=ak hcb 13 (Gi _ (k:=2) rfl)
     have q13:∀q:After wb,q.to.cell? ⟨p6,13,none⟩=some (.slice x.a x.mem.length x.c):=fun q=>q.cell c13
     have qz:∀(q:After wb) (i:Nat),i<8→q.to.cell? ⟨p6,3+i,none⟩=some (.int .u32 0):=fun q i hi=>q.cell (by
      rw[ak hcb (3+i) (Dx x i hi)]
      have hr:x.r=r0:=congrArg (fun p:qg=>p.r) hxy
      have:x.r.1[i]'(by rw[x.r.2];exact hi)=0:=by
       have e:∀(r:R8) (h:i<r.1.length),r=r0→r.1[i]=0:=by
        rintro r h rfl
        match i,hi with
        | 0,_=>rfl
        | 1,_=>rfl
        | 2,_=>rfl
        | 3,_=>rfl
        | 4,_=>rfl
        | 5,_=>rfl
        | 6,_=>rfl
        | 7,_=>rfl
       exact e _ _ hr
      rw[this];rfl)
     have q3:∀q:After wb,q.to.cell? ⟨p6,3,none⟩=some (.int .u32 0):=fun q=>qz q 0 AP
     have q4:∀q:After wb,q.to.cell? ⟨p6,4,none⟩=some (.int .u32 0):=fun q=>qz q 1 AP
     have q5:∀q:After wb,q.to.cell? ⟨p6,5,none⟩=some (.int .u32 0):=fun q=>qz q 2 AP
     have q6:∀q:After wb,q.to.cell? ⟨p6,6,none⟩=some (.int .u32 0):=fun q=>qz q 3 AP
     have q7:∀q:After wb,q.to.cell? ⟨p6,7,none⟩=some (.int .u32 0):=fun q=>qz q 4 AP
     have q8:∀q:After wb,q.to.cell? ⟨p6,8,none⟩=some (.int .u32 0):=fun q=>qz q 5 AP
     have q9:∀q:After wb,q.to.cell? ⟨p6,9,none⟩=some (.int .u32 0):=fun q=>qz q 6 AP
     have q10:∀q:After wb,q.to.cell? ⟨p6,10,none⟩=some (.int .u32 0):=fun q=>qz q 7 AP
     have hne:=GY
     have qe:∀q:After wb,q.to.cell? ⟨B,1,none⟩=some (.slice V.pa V.ps.length V.pc):=fun q=>q.cell (keep B2 HD.o.2.2.1)
     have i1:=H5.o.1.pts.index Eh k hlt
     have qs2:∀q:After wb,q.to.cell? ⟨(ad V.pa (k*5)).block,(ad V.pa (k*5)).off+2,none⟩=some (.int .i64 x.mem.length):=fun q=>by
      rw[hlen.o,hy.o]
      exact(eU H5.o.1.pts (B2.trans (q.bel.mono B2.size)) k hlt).2.2.1
     have HB2:=AQ B2
     have HCB:=AQ hcb
     have HLT:=AQ hlt
     clear BL B2 hbb hcb hxy hreg
     go_upto_region 12 with (first
      | (with_reducible refine ku (o:=⟨some 73, .load _ (.tmp 72),_,_,_,_⟩) L1.o ?_)
      | (with_reducible refine yU (d:=6) (X:=cP x) dR oh (dZ _) (jO _) ?_))
     rw[←hwb,←hp6]
     have HP6:=AQ hp6
     clear hwb hp6 L1 i0 d1
     refine bD AB AB ?_
     iterate 27
      refine iH (fun K hK=> ?_)
      go_simp
      refine hK _ ?_
      clear hK K
     refine jM ?_
     intro w6 hw'
     obtain⟨⟨_,hb6⟩,hw'⟩:=hw'
     subst hw'
     have HB6:=AQ (HB2.o.trans (hb6.mono HB2.o.size))
     have c13:=keep hb6 c13
     have HC13:=AQ c13
     have HCB6:=AQ (ay HCB.o hb6)
     clear hb6 q11 q12 q13 q3 q4 q5 q6 q7 q8 q9 q10 qz qe qs2 hne HP6
     go_upto_region 15 with fail
     go_loopw [7] (fun i wz=>∃j:Nat,i= .int .i64 (j:Int)∧j≤x.mem.length∧Below w6.heap.size w6 wz) (fun i _=>x.mem.length-(intOf i).toNat)
     case atStart=>exact⟨0,rfl,Nat.zero_le _,Below.refl _ _⟩
     case round=>
      obtain⟨j,rfl,hj,Bz⟩:=hrel
      have HBz:=AQ Bz
      have c13:=keep Bz HC13.o
      by_cases hjl:j<x.mem.length
      ·have hw:=HB6.o.trans (Bz.mono HB6.o.size)
       have qe:=keep hw HD.o.2.2.1
       have i1:=H5.o.1.pts.index Eh k HLT.o
       have u4:wr.cell? ⟨(ad V.pa (k*5)).block,(ad V.pa (k*5)).off+4,none⟩=some (.slice y.a y.img.length y.c):=by rw[hy.o];exact(eU H5.o.1.pts hw k HLT.o).2.2.2.2
       have hrow:Row wr y.a y.img y.c:=by rw[hy.o];exact(H5.o.1.img V.ps[k] (List.getElem_mem HLT.o)).stay hw
       have hmrow:Row wr x.a x.mem x.c:=by rw[hx.o];exact(H5.o.2.2.2.1.mem _ (List.getElem_mem _)).stay hw
       have i3:=hmrow.index uN.slice uN.sz j hjl
       have m3:=hmrow.cell j hjl
       have hz:(jJ n y.img)[j]? =some x.mem[j]:=by rw[←hmem.o];exact List.getElem?_eq_getElem hjl
       have hjn:j<n:=by have h1:=hlen.o;rw[hn.o] at h1;omega
       rw[Ed n y.img hni.o j hjn] at hz
       have hz:=Option.some.inj hz
       obtain⟨z,hzz⟩:∃z,Hid (z=x.mem[j]):=⟨x.mem[j],AQ rfl⟩
       rw[←hzz.o] at m3 hz
       have HJL:=AQ hjl
       have hil:=hrow.aI
       have hxl:=hmrow.aI
       by_cases hji:j<y.img.length
       ·have i2:=hrow.index uN.slice uN.sz j hji
        have m2:=hrow.cell j hji
        rw[dif_pos hji] at hz
        rw[hz] at m2
        clear hw hz hrow hmrow Bz hjn
        go_wp2_with fail
        go_roundw
        case rel=>exact⟨j+1,by go_num,HJL.o,HBz.o⟩
        case measure=>have:=HJL.o;simp[intOf];omega
       ·rw[dif_neg hji] at hz
        rw[←hz] at m3
        clear hw hz hrow hmrow Bz hjn
        go_wp2_with fail
        go_roundw
        case rel=>exact⟨j+1,by go_num,HJL.o,HBz.o⟩
        case measure=>have:=HJL.o;simp[intOf];omega
      ·clear Bz
       go_wp2_with fail
       go_roundw
       case rel=>exact⟨k+1,by go_num,HLT.o,HB6.o.trans (HBz.o.mono HB6.o.size)⟩
       case measure=>have:=HLT.o;simp[intOf];omega
    ·have d1:=keep BL HD.o.1
     clear BL
     go_upto_region 23 with fail
     go_loopw [9] (fun i wz=>∃k:Nat,i= .int .i64 (k:Int)∧k≤V.cs.length∧Below w5.heap.size w5 wz) (fun i _=>V.cs.length-(intOf i).toNat)
     case atStart=>exact⟨0,rfl,Nat.zero_le _,HB.o⟩
     case round=>
      obtain⟨j,rfl,hj,Bz⟩:=hrel
      have HBz:=AQ Bz
      have d2:=keep Bz HD.o.2.1
      by_cases hjl:j<V.cs.length
      ·have hjs:j<s.qs.length:=by rw[HPS.o.2.2.2];exact hjl
       have i0:∀W:World,(Instr.indexAt 30 (.slice s.qa V.cs.length s.qc) (.int .i64 (j:Int))).run Tryz.prog W= .ok (.pointer (some (ad s.qa (j*6)))) W:=by rw[←HPS.o.2.2.2];exact H5.o.2.2.2.1.wJ.index fF j hjs
       have u5:=(H5.o.2.2.2.1.wJ.stay aT Bz).field j hjs 5 AP rfl
       have hms:s.qs[j].ms.length=0:=by
        have h1:(s.qs.map bF.kC)[j]? =(V.cs.map jS)[j]? :=by rw[HPS.o.2.1]
        rw[List.getElem?_map,List.getElem?_map,List.getElem?_eq_getElem hjs,List.getElem?_eq_getElem hjl] at h1
        have h2:s.qs[j].kC.msgs=(jS V.cs[j]).msgs:=by rw[Option.some.inj h1]
        have h3:s.qs[j].ms.map Sl.l=[]:=h2
        have:=congrArg List.length h3
        simpa using this
       rw[hms] at u5
       have HJL:=AQ hjl
       clear hms Bz
       go_wp2_with fail
       go_roundw
       case rel=>exact⟨j+1,by go_num,HJL.o,HBz.o⟩
       case measure=>have:=HJL.o;simp[intOf];omega
      ·have HA:=AQ iL
       clear Bz
       go_wp2_with fail
       refine(HA.o _).mono ?_
       rintro e w6 ⟨rfl,hb6⟩
       have h1:=H5.o.2.2.2.2.trans (HBz.o.mono H5.o.2.2.2.2.size)
       have HE:=AQ (h1.trans (hb6.mono h1.size))
       clear hb6 h1
       go_wp2_with fail
       go_ret
       exact⟨rfl,HE.o⟩
theorem qC (w:World) (V:aZ) (h:V.At w) (hb:∀x∈V.ps,x.img.length≤140737488351232):Calls Tryz.prog 3 #[.agg (Gn V).toArray] w fun e w'=>e= .returned (.bool true)∧Below w.heap.size w w':=qF w V h hb
end Go.Proofs.YtlholdllibghbaaGreat
