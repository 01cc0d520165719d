/- Texts of the proof, one behind the other: RefGet, RefGet2. No condition but those that each names. -/
import Derived.Test.YtlholdllibghbaaGreatG33
import Derived.Test.YtlholdllibghbaaGreatKit
set_option maxRecDepth 100000
set_option maxHeartbeats 8000000
namespace Go.Proofs.YtlholdllibghbaaGreat
open Go Go.RowKit Go.Cit
theorem oD (s:St) (n:Nat):(∃x s',s.next n=(some x,s')∧x.length=n∧s'.e=0)∨(∃s',s.next n=(none,s')∧s'.e≠0):=by
 unfold St.next
 by_cases he:s.e=0
 ·by_cases hn:n≤s.l.length
  ·left;exact⟨s.l.take n,⟨s.l.drop n,0⟩,by simp[he,hn],by rw[List.length_take];omega,rfl⟩
  ·right;exact⟨St.broke,by simp[he,hn],by decide⟩
 ·right;exact⟨s,by simp[he],he⟩
theorem RG (x:List UInt8) (h:x.length=1):sN (dS x)=x.getD 0 0∧(dS x).toNat=(x.getD 0 0).toNat:=by
 match x,h with
 |
  [y],_=>
  have h1:(dS [y]).toNat=y.toNat:=by rw[tC _ AO];simp[DY]
  refine⟨?_,h1⟩
  apply UInt8.toNat_inj.1
  unfold sN
  rw[UInt64.toNat_toUInt8,h1]
  have:=y.toNat_lt
  simp only[List.getD_cons_zero]
  omega
theorem xJ {base top w b s} (h:iP base top w b s):
 Calls Tryz.prog 63 #[.pointer (some ⟨b,0,none⟩)] w fun r w'=>r= .returned (.int .i64 (s.read 8 jW 0).1)∧iP base top w' b (s.read 8 jW 0).2∧Save (· ≠b) w w':=by
 have hk:=nM h 8 AP AP
 rw[show((8:Nat):Int)=8 from rfl] at hk
 have HE:Hid (wrap64 ((s.num 8).1.toNat:Int)=(s.read 8 jW 0).1∧(s.num 8).2=(s.read 8 jW 0).2):=by
  rw[Hid];unfold St.num St.read
  rcases oD s 8 with⟨x,s',h1,h2,_⟩ |⟨s',h1,_⟩
  ·rw[h1];exact⟨rfl,rfl⟩
  ·rw[h1];exact⟨(show wrap64 (((0:UInt64).toNat:Nat):Int)=0 from by kernel_rfl),rfl⟩
 obtain⟨q,hq⟩:=AU (s.num 8)
 rw[←hq.o] at hk HE
 go_enter Tryz.func63,Tryz.ntmps63
 go_wp2_with fail
 refine Calls.mono hk ?_
 rintro r w1 ⟨rfl,hR,hS⟩
 go_wp2_with fail
 go_ret
 rw[←HE.o.1,←HE.o.2]
 exact⟨rfl,hR,hS⟩
theorem Rf.broke {base top w b a B c t e} (h:Rf base top w b a B c t e):iP base top (w.setCell ⟨b,2,none⟩ (.int .i64 50)) b St.broke:=
 ⟨a,B,c,t,⟨set2 h.blk,h.row.save' Save.set (fun hB g hg=>(h.off hB g hg).1),h.ge,h.off,h.len,h.le⟩,fun h=>absurd h AP⟩
theorem ED {base top w b s} (h:iP base top w b s):
 Calls Tryz.prog 151 #[.pointer (some ⟨b,0,none⟩)] w fun r w'=>r= .returned (.bool (s.read 1 iJ false).1)∧iP base top w' b (s.read 1 iJ false).2∧Save (· ≠b) w w':=by
 have hk:=nM h 1 AP AP
 rw[show((1:Nat):Int)=1 from rfl] at hk
 obtain⟨q,hq⟩:=AU (s.num 1)
 have HE:Hid ((q.1.toNat≤1→s.read 1 iJ false=(decide (q.1.toNat=1),q.2))∧(1<q.1.toNat→s.read 1 iJ false=(false,St.broke))):=by
  rw[Hid,hq.o];unfold St.num St.read
  rcases oD s 1 with⟨x,s',h1,h2,_⟩ |⟨s',h1,_⟩
  ·rw[h1]
   have hb:=(RG x h2).2
   have hx:(x.getD 0 0==bI 1)=decide ((dS x).toNat=1):=by
    rw[hb,Bool.eq_iff_iff,beq_iff_eq,decide_eq_true_eq]
    constructor
    ·intro hx;rw[hx];rfl
    ·intro hx;apply UInt8.toNat_inj.1;rw[hx];rfl
   simp only[iJ,hx]
   rw[←hb]
   exact⟨fun hle=>by simp[hle],fun hlt=>by simp[Nat.not_le.2 hlt]⟩
  ·rw[h1];exact⟨fun _=>rfl,fun hlt=>absurd (show 1<(0:UInt64).toNat from hlt) AP⟩
 rw[←hq.o] at hk
 obtain⟨q1,q2⟩:=q
 go_enter Tryz.func151,Tryz.ntmps151
 go_wp2_with fail
 refine Calls.mono hk ?_
 rintro r w1 ⟨rfl,⟨a1,B1,c1,t1,hR,hd⟩,hS⟩
 have d2:=hR.c2
 have f2:=hR.fr 2
 by_cases hle:q1.toNat≤1
 ·have hr:=AQ (HE.o.1 hle)
  have g:¬(1:Int)<q1.toNat:=by omega
  go_wp2_with fail
  go_ret
  rw[hr.o]
  refine⟨aJ ?_,⟨a1,B1,c1,t1,hR,hd⟩,hS⟩
  rw[Bool.eq_iff_iff];simp;omega
 ·have hr:=AQ (HE.o.2 AL)
  have g:(1:Int)<q1.toNat:=by omega
  go_wp2_with fail
  go_ret
  rw[hr.o]
  refine⟨aJ ?_,hR.broke,hS.trans Save.set⟩
  simp;omega
theorem uO {base top w b s} (h:iP base top w b s) (n:Nat) (hn:n≤1000000):
 Calls Tryz.prog 149 #[.pointer (some ⟨b,0,none⟩), .int .i64 n] w fun r w'=>∃a' X c',Hid (X=(s.read n fAll []).1)∧r= .returned (.tuple #[.slice a' X.length c', .bool (s.next n).1.isSome])∧Mine w.heap.size w' a' X c'∧iP base top w' b (s.read n fAll []).2∧Save (· ≠b) w w':=by
 obtain⟨a,B,c,t,hR,hd⟩:=h
 obtain⟨l,e⟩:=s
 by_cases hy:e=0∧n≤B.length-t
 ·obtain⟨rfl,hn⟩:=hy
  obtain rfl:B.drop t=l:=hd rfl
  have hnl:n≤(B.drop t).length:=by rw[List.length_drop];exact hn
  rw[mZ hnl rfl,oH hnl]
  exact zL hR n hn
 ·have hno:e=0→((B.length-t:Nat):Int)<n:=fun he=>by have:=fun h=>hy ⟨he,h⟩;omega
  have hno2:e=0→l.length<n:=fun he=>by have h2:=hno he;have h3:=hd he;simp only at h3;rw[←h3,List.length_drop];omega
  rw[pR hno2,yM hno2]
  refine(DI hR n AL AL hno).mono ?_
  rintro r w' ⟨hr,hR',hS⟩
  refine⟨none,[],0,rfl,hr,Mine.nil _ _, ?_,hS⟩
  by_cases he:e=0
  ·have h3:=hd he
   simp only at h3
   rw[←h3];exact hR'
  ·unfold St.breaks at hR' ⊢
   rw[if_neg he] at hR' ⊢
   obtain⟨a',B',c',t',hR',_⟩:=hR'
   exact⟨a',B',c',t',hR',fun h0=>absurd h0 he⟩
theorem sW {base top w b s} (h:iP base top w b s):
 Calls Tryz.prog 66 #[.pointer (some ⟨b,0,none⟩)] w fun r w'=>∃a' X c',Hid (X=s.bytes.1)∧r= .returned (.slice a' X.length c')∧Mine w.heap.size w' a' X c'∧iP base top w' b s.bytes.2∧Save (· ≠b) w w':=by
 have hk:=nM h 4 AP AP
 rw[show((4:Nat):Int)=4 from rfl] at hk
 obtain⟨q,hq⟩:=AU (s.num 4)
 have HE:Hid ((q.1.toNat≤65536→s.bytes=q.2.read q.1.toNat fAll [])∧(65536<q.1.toNat→s.bytes=([],St.broke))):=by
  rw[Hid,hq.o];unfold St.bytes St.num
  rcases oD s 4 with⟨x,s',h1,h2,h3⟩ |⟨s',h1,h3⟩
  ·have hr:s.read 4 ny 0=if (dS x).toNat≤65536 then (((dS x).toNat:Int),s') else (0,St.broke):=by
    unfold St.read;rw[h1];simp[ny]
   rw[h1,hr]
   refine⟨fun hle=> ?_,fun hlt=> ?_⟩
   ·simp only at hle
    rw[if_pos hle];simp[h3]
   ·simp only at hlt
    have hgt:¬(dS x).toNat≤65536:=by omega
    simp[hgt,St.broke]
  ·have hr:s.read 4 ny 0=(0,s'):=by unfold St.read;rw[h1]
   rw[h1,hr]
   refine⟨fun _=> ?_,fun hlt=>absurd (show 65536<(0:UInt64).toNat from hlt) AP⟩
   simp only[if_neg h3]
   have:s'.next (0:UInt64).toNat=(none,s'):=by unfold St.next;rw[if_pos h3]
   unfold St.read;rw[this]
 rw[←hq.o] at hk
 obtain⟨q1,q2⟩:=q
 go_enter Tryz.func66,Tryz.ntmps66
 go_wp2_with fail
 refine Calls.mono hk ?_
 rintro r w1 ⟨rfl,hR1,hS⟩
 by_cases hle:q1.toNat≤65536
 ·have hr:=AQ (HE.o.1 hle)
  have g:¬(65536:Int)<q1.toNat:=by omega
  have hnx:=uO hR1 q1.toNat AL
  go_wp2_with fail
  refine Calls.mono hnx ?_
  rintro r w2 ⟨a2,X,c2,HX,rfl,hm2,hR2,hS2⟩
  go_wp2_with fail
  go_ret
  rw[hr.o]
  exact⟨a2,X,c2,HX,rfl,hm2.low hS.size,hR2,hS.trans hS2⟩
 ·have hr:=AQ (HE.o.2 AL)
  have g:(65536:Int)<q1.toNat:=by omega
  obtain⟨a1,B1,c1,t1,hR,hd⟩:=hR1
  have d2:=hR.c2
  have f2:=hR.fr 2
  go_wp2_with fail
  go_ret
  rw[hr.o]
  exact⟨none,[],0,rfl,rfl,Mine.nil _ _,hR.broke,hS.trans Save.set⟩
theorem xZ {base top w b s} (h:iP base top w b s):
 Calls Tryz.prog 67 #[.pointer (some ⟨b,0,none⟩)] w fun r w'=>r= .returned (.int .i64 s.fin)∧vS w w':=by
 obtain⟨a,B,c,t,hR,hd⟩:=h
 obtain⟨l,e⟩:=s
 have c2:∀k,(w.drewN k).cell? ⟨b,2,none⟩=some (.int .i64 e):=fun _=>hR.c2
 have d0:∀k,(w.drewN k).cell? ⟨b,0,none⟩=some (.slice a B.length c):=fun _=>hR.c0
 have d1:∀k,(w.drewN k).cell? ⟨b,1,none⟩=some (.int .i64 t):=fun _=>hR.c1
 have hl:=hR.len
 have hle:=hR.le
 by_cases he:e=0
 ·have ge:(e==0)=true:=by rw[he];rfl
  have h3:=hd he
  simp only at h3
  by_cases hlt:t<B.length
  ·have HE:Hid (St.fin ⟨l,e⟩=50):=by rw[Hid,St.fin,St.left,if_pos he,if_pos];rw[←h3,List.length_drop];omega
   clear he hd h3
   go_enter Tryz.func67,Tryz.ntmps67
   go_wp2_with fail
   go_quiet (fail)
   go_wp2_with fail
   go_ret
   exact⟨by rw[HE.o];rfl,⟨_,rfl⟩⟩
  ·have HE:Hid (St.fin ⟨l,e⟩=e):=by rw[Hid,St.fin,St.left,if_pos he,if_neg];rw[←h3,List.length_drop];omega
   clear he hd h3
   go_enter Tryz.func67,Tryz.ntmps67
   go_wp2_with fail
   go_quiet (fail)
   go_wp2_with fail
   go_ret
   exact⟨by rw[HE.o];rfl,⟨_,rfl⟩⟩
 ·have ge:(e==0)=false:=by simpa using he
  have HE:Hid (St.fin ⟨l,e⟩=e):=by rw[Hid,St.fin,St.left,if_neg he];rfl
  clear he hd
  go_enter Tryz.func67,Tryz.ntmps67
  go_wp2_with fail
  go_quiet (fail)
  go_wp2_with fail
  go_ret
  exact⟨by rw[HE.o];rfl,⟨_,rfl⟩⟩
open Go Go.RowKit Go.Cit
theorem count_eq (s:St) (most:Int):s.count most=if (s.read 8 jW 0).2.e=0 then (if 0≤(s.read 8 jW 0).1∧(s.read 8 jW 0).1≤most∧(s.read 8 jW 0).1≤((s.read 8 jW 0).2.l.length:Int) then ((s.read 8 jW 0).1,(s.read 8 jW 0).2) else (0,St.broke)) else (0,(s.read 8 jW 0).2):=by
 unfold St.count St.read
 rcases oD s 8 with⟨x,s',h1,h2,h3⟩ |⟨s',h1,h3⟩
 ·rw[h1];simp[jW,h3]
 ·rw[h1];simp[h3]
theorem og {base top w b s} (h:iP base top w b s) (most:Int):
 Calls Tryz.prog 150 #[.pointer (some ⟨b,0,none⟩), .int .i64 most] w fun r w'=>r= .returned (.int .i64 (s.count most).1)∧iP base top w' b (s.count most).2∧Save (· ≠b) w w':=by
 have hk:=xJ h
 have HC:=AQ (count_eq s most)
 obtain⟨q,hq⟩:=AU (s.read 8 jW 0)
 rw[←hq.o] at hk HC
 obtain⟨q1,l,e⟩:=q
 go_enter Tryz.func150,Tryz.ntmps150
 go_wp2_with fail
 refine Calls.mono hk ?_
 rintro r w1 ⟨rfl,⟨a,B,c,t,hR,hd⟩,hS⟩
 clear hk
 have c2:∀k,(w1.drewN k).cell? ⟨b,2,none⟩=some (.int .i64 e):=fun _=>hR.c2
 have d0:∀k,(w1.drewN k).cell? ⟨b,0,none⟩=some (.slice a B.length c):=fun _=>hR.c0
 have d1:∀k,(w1.drewN k).cell? ⟨b,1,none⟩=some (.int .i64 t):=fun _=>hR.c1
 have f2:∀k,(w1.drewN k).frozen? ⟨b,2,none⟩=false:=fun _=>hR.fr 2
 have hl:=hR.len
 have hle:=hR.le
 have hRn:∀k,Rf base top (w1.drewN k) b a B c t e:=fun k=>hR.save (S:=fun _=>True) (Save.drewN _ _) trivial (fun _ _ _=>trivial)
 by_cases he:e=0
 ·have ge:(e==0)=true:=by rw[he];rfl
  have h3:B.drop t=l:=hd he
  have HL:Hid ((l.length:Int)=B.length-t):=by rw[Hid,←h3,List.length_drop];omega
  have HE:=AQ he
  by_cases g1:q1<0
  ·have d01:decide (q1<0)=true:=decide_eq_true g1
   have HC2:Hid (s.count most=(0,St.broke)):=by rw[Hid,HC.o];simp only[if_pos he];rw[if_neg (by rintro⟨h1,h2,h3⟩;omega)]
   have g0:True:=trivial
   clear he hd h3 HC
   go_wp2_with fail
   go_quiet (fail)
   go_wp2_with fail
   go_ret
   rw[HC2.o]
   exact⟨rfl,(hRn _).broke,hS.trans ((Save.drewN _ _).trans Save.set)⟩
  have d01:decide (q1<0)=false:=decide_eq_false g1
  by_cases g2:most<q1
  ·have d02:decide (most<q1)=true:=decide_eq_true g2
   have HC2:Hid (s.count most=(0,St.broke)):=by rw[Hid,HC.o];simp only[if_pos he];rw[if_neg (by rintro⟨h1,h2,h3⟩;omega)]
   have g0:True:=trivial
   clear he hd h3 HC
   go_wp2_with fail
   go_quiet (fail)
   go_wp2_with fail
   go_ret
   rw[HC2.o]
   exact⟨rfl,(hRn _).broke,hS.trans ((Save.drewN _ _).trans Save.set)⟩
  have d02:decide (most<q1)=false:=decide_eq_false g2
  by_cases g3:(B.length:Int)-t<q1
  ·have d03:decide ((B.length:Int)-t<q1)=true:=decide_eq_true g3
   have HC2:Hid (s.count most=(0,St.broke)):=by rw[Hid,HC.o];simp only[if_pos he];rw[if_neg (by rintro⟨h1,h2,h3⟩;have:=HL.o;omega)]
   have g0:True:=trivial
   clear he hd h3 HC
   go_wp2_with fail
   go_quiet (fail)
   go_wp2_with fail
   go_ret
   rw[HC2.o]
   exact⟨rfl,(hRn _).broke,hS.trans ((Save.drewN _ _).trans Save.set)⟩
  have d03:decide ((B.length:Int)-t<q1)=false:=decide_eq_false g3
  have HC2:Hid (s.count most=(q1,⟨l,e⟩)):=by rw[Hid,HC.o];simp only[if_pos he];rw[if_pos ⟨by omega,by omega,by have:=HL.o;omega⟩]
  have ge2:(e !=0)=false:=by rw[he];rfl
  clear he HC
  go_wp2_with fail
  go_quiet (fail)
  go_wp2_with fail
  go_ret
  rw[HC2.o]
  exact⟨rfl,⟨a,B,c,t,hRn _,fun _=>h3⟩,hS.trans (Save.drewN _ _)⟩
 ·have ge:(e==0)=false:=by simpa using he
  have ge2:(e !=0)=true:=by simpa using he
  have HC2:Hid (s.count most=(0,⟨l,e⟩)):=by rw[Hid,HC.o];simp only[if_neg he]
  have HE:=AQ he
  clear he HC
  go_wp2_with fail
  go_quiet (fail)
  go_wp2_with fail
  go_ret
  rw[HC2.o]
  exact⟨rfl,⟨a,B,c,t,hRn _,fun h0=>absurd h0 HE.o⟩,hS.trans (Save.drewN _ _)⟩
end Go.Proofs.YtlholdllibghbaaGreat
