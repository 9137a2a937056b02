/- Part of a proof. -/
import Derived.Test.YtpdjhlcbcomdkaaGreatDoorW28
set_option linter.unusedVariables false
set_option linter.unusedSimpArgs false
set_option maxRecDepth 100000
set_option maxHeartbeats 16000000
open Go Go.Q Go.Qr
namespace Go.Proofs.By
open Go.RowKit Go.Proofs.Heap Go.Proofs
open Go.Proofs.Rm (below_drewN)
section
variable {w:World} {V k:Nat} {ov av mv lv:Value} {L:List VG} {x:Zq} {wv cv qv:Value}
theorem Jx (h:VB w V k ov av mv lv L x wv cv qv) {j:Nat} (hj:j<L.length) :
  Calls Tryz.prog 88 (Qj (some ⟨V,0,none⟩) (j:Int)) w fun e w'=>e = .returned (.bool (Tk L x j))∧Below w w w':=by
 obtain ⟨g,o,c,rfl,KQ⟩:=uL h.XE hj
 have v0:w.cell? ⟨V,0,none⟩=some (.pointer (some ⟨k,0,none⟩)):=Zc h.view 0 rfl
 have b1:w.cell? ⟨k,1,none⟩=some (.slice (some ⟨g,o,none⟩) L.length c):=Zc h.book 1 rfl
 have hVl:=ZV h.view
 have HV:=Zh h.view
 have HX:Hid (Tk L x j=(OP x j && decide ((ZX L j).XE.kind=1) && decide ((ZX L j).XE.source=x.source))):=rfl
 have Al:(j:Int)<(L.length:Int):=Ou.2 hj
 obtain ⟨xp,xs,xb,xf⟩:=x
 generalize Tk L ⟨xp,xs,xb,xf⟩ j=X at *
 generalize (ZX L j).XE=A at *
 obtain ⟨ak,as',ae,ar⟩:=A
 dsimp only at HX KQ HV
 clear h
 have hz:=Z7 w (.cells (Qe 0 0 0 0) 35)
 have JQ:=setRow_heap _ _ _ (Qe ak as' ae ar) _ _ hz
 have HB:Hid (Below w w ((w.alloc (.cells (Qe 0 0 0 0) 35)).setRow w.heap.size (Qe ak as' ae ar))):=Z3 (Z' w _) (Zw _) _
 go_enter Tryz.func88,Tryz.ntmps88
 go_upto_region 2 with (first|(with_reducible refine Y8 35 (.tmp 14) rfl ?_;refine wpList_load_mid rfl 35 (.tmp 14) rfl g (o+j*4) rfl (Qe ak as' ae ar) _ KQ Tryz.underlying35 rfl ZB ?_)|(with_reducible refine ZU 35 (.tmp 5) (.tmp 15) rfl ?_;refine ZW rfl 35 (.tmp 5) (.tmp 15) rfl rfl w.heap.size (Qe ak as' ae ar) rfl rfl 35 (Qe 0 0 0 0) hz ZB ZB ZB ?_))
 clear hz KQ v0 b1
 have HVV:=Zh ((HB.o.block V hVl).trans HV.o)
 generalize ((w.alloc (.cells (Qe 0 0 0 0) 35)).setRow w.heap.size (Qe ak as' ae ar))=w5 at *
 have y0:w5.cell? ⟨w,0,none⟩=some (.int .i64 ak):=Zc JQ 0 rfl
 have y1:w5.cell? ⟨w,1,none⟩=some (.int .i64 as'):=Zc JQ 1 rfl
 have z2:w5.cell? ⟨V,2,none⟩=some (.int .i64 xs):=Zc HVV.o 2 rfl
 have CL:Hid (∀ n,Calls Tryz.prog 115 (Qj (some ⟨V,0,none⟩) (j:Int)) (w5.drewN n) fun e w'=>e = .returned (.bool (OP ⟨xp,xs,xb,xf⟩ (j:Int)))∧w'=w5.drewN n):=fun n=>(O8 V xp xs xb xf wv cv qv _ (w5.drewN n) HVV.o (j:Int)).mono fun e w' ⟨a,b⟩=>⟨a,b.symm⟩
 generalize OP ⟨xp,xs,xb,xf⟩ (j:Int)=l at *
 clear JQ
 cases l with
 | false=>
  exact gH
 | true=>
  by_cases h1:ak=1
  ·subst h1
   exact gH
  ·have e1:(ak == 1)=false:=by rw [WQ];exact h1
   go_quiet ((go_at_call 115;exact Calls.quiet_of_same (CL.o _)))
   have X6:=Zh (below_drewN HB.o nq)
   clear CL
   go_wp2_with fail
   go_ret
   exact ⟨by rw [HX.o,WB h1];rfl,X6.o⟩
theorem TK (h:VB w V k ov av mv lv L x wv cv qv) {j:Nat} (hj:j<L.length) {s:VS} (hs:fX w wv cv qv j s) :
  Calls Tryz.prog 89 (Qj (some ⟨V,0,none⟩) (j:Int)) w fun e w'=>e = .returned (.bool (Ug s (ZX L j).Wo))∧Below w w w':=by
 obtain ⟨g,o,c,a1,n1,c1,a2,n2,c2,a3,n3,c3,rfl,hr⟩:=Ks h hj
 have KQ:w.rangeAt g (o+j*15+11) (Qc (ZX L j).Wo.ZF (ZX L j).Wo.key (ZX L j).Wo.start (ZX L j).Wo.frame):=tX hr 11 (fun m v hm=>by
  have h:=(List.getElem?_eq_some_iff.1 hm).1
  have h:m<4:=by simpa using h
  rcases m with _|_|_|_|m
  all_goals first|exact hm|omega)
 obtain ⟨⟨g1,o1,m1,d1,rfl,l1,e1⟩,⟨g2,o2,m2,d2,rfl,l2,e2⟩,⟨g3,o3,m3,d3,rfl,l3,e3⟩⟩:=hs
 have v0:w.cell? ⟨V,0,none⟩=some (.pointer (some ⟨k,0,none⟩)):=Zc h.view 0 rfl
 have v5:w.cell? ⟨V,5,none⟩=some (.slice (some ⟨g1,o1,none⟩) m1 d1):=Zc h.view 5 rfl
 have v6:w.cell? ⟨V,6,none⟩=some (.slice (some ⟨g2,o2,none⟩) m2 d2):=Zc h.view 6 rfl
 have v7:w.cell? ⟨V,7,none⟩=some (.slice (some ⟨g3,o3,none⟩) m3 d3):=Zc h.view 7 rfl
 have b2:w.cell? ⟨k,2,none⟩=some (.slice (some ⟨g,o,none⟩) L.length c):=Zc h.book 2 rfl
 have HX:Hid (Ug s (ZX L j).Wo=(!s.quiet && (ZX L j).Wo.key && (ZX L j).Wo.start && decide ((ZX L j).Wo.ZF=s.want) && !decide ((ZX L j).Wo.ZF=s.cur))):=rfl
 have Al:(j:Int)<(L.length:Int):=Ou.2 hj
 have i1:(j:Int)<(m1:Int):=Ou.2 l1
 have i2:(j:Int)<(m2:Int):=Ou.2 l2
 have i3:(j:Int)<(m3:Int):=Ou.2 l3
 clear h hr
 generalize Ug s (ZX L j).Wo=X at *
 generalize (ZX L j).Wo=D at *
 generalize s.quiet=q at *
 generalize s.want=wt at *
 generalize s.cur=cu at *
 obtain ⟨ly,ke,st,fm⟩:=D
 dsimp only at HX KQ
 have hz:=Z7 w (.cells (Qc 0 false false 0) 81)
 have JQ:=setRow_heap _ _ _ (Qc ly ke st fm) _ _ hz
 have HB:Hid (Below w w ((w.alloc (.cells (Qc 0 false false 0) 81)).setRow w.heap.size (Qc ly ke st fm))):=Z3 (Z' w _) (Zw _) _
 have KC:Hid (∀ (g o:Nat) (u:Value),w.cell? ⟨g,o,none⟩=some u→((w.alloc (.cells (Qc 0 false false 0) 81)).setRow w.heap.size (Qc ly ke st fm)).cell? ⟨g,o,none⟩=some u):=fun g o u hc=>Yi hc HB.o
 go_enter Tryz.func89,Tryz.ntmps89
 go_upto_region 2 with (first|(with_reducible refine Y8 81 (.tmp 15) rfl ?_;refine wpList_load_mid rfl 81 (.tmp 15) rfl g (o+j*15+11) rfl (Qc ly ke st fm) _ KQ Tryz.underlying81 rfl ZB ?_)|(with_reducible refine ZU 81 (.tmp 5) (.tmp 16) rfl ?_;refine ZW rfl 81 (.tmp 5) (.tmp 16) rfl rfl w.heap.size (Qc ly ke st fm) rfl rfl 81 (Qc 0 false false 0) hz ZB ZB ZB ?_))
 clear hz KQ v0 b2
 replace v5:=KC.o _ _ _ v5
 replace v6:=KC.o _ _ _ v6
 replace v7:=KC.o _ _ _ v7
 replace e1:=KC.o _ _ _ e1
 replace e2:=KC.o _ _ _ e2
 replace e3:=KC.o _ _ _ e3
 clear KC
 generalize ((w.alloc (.cells (Qc 0 false false 0) 81)).setRow w.heap.size (Qc ly ke st fm))=w5 at *
 have y0:w5.cell? ⟨w,0,none⟩=some (.int .i64 ly):=Zc JQ 0 rfl
 have y1:w5.cell? ⟨w,1,none⟩=some (.bool ke):=Zc JQ 1 rfl
 have y2:w5.cell? ⟨w,2,none⟩=some (.bool st):=Zc JQ 2 rfl
 clear JQ
 cases q with
 | true=>
  exact nQ
 | false=>
 cases ke with
 | false=>
  exact nQ
 | true=>
 cases st with
 | false=>
  exact nQ
 | true=>
 by_cases h1:ly=wt
 rotate_left
 ·have f1:(ly == wt)=false:=by rw [WQ];exact h1
  go_quiet (fail)
  have X6:=Zh (below_drewN HB.o nq)
  go_wp2_with fail
  go_ret
  exact ⟨by rw [HX.o,WB h1];rfl,X6.o⟩
 have f1:(ly == wt)=true:=by rw [beq_iff_eq];exact h1
 by_cases h2:ly=cu
 ·have f2:(ly != cu)=false:=by rw [bne_eq_false_iff_eq];exact h2
  have H1:=Zh h1
  have H2:=Zh h2
  clear h1 h2
  go_quiet (fail)
  have X6:=Zh (below_drewN HB.o nq)
  go_wp2_with fail
  go_ret
  exact ⟨by rw [HX.o,We H1.o,We H2.o];rfl,X6.o⟩
 have f2:(ly != cu)=true:=by rw [R6];exact h2
 have H1:=Zh h1
 have H2:=Zh h2
 clear h1 h2
 go_quiet (fail)
 have X6:=Zh (below_drewN HB.o nq)
 go_wp2_with fail
 go_ret
 exact ⟨by rw [HX.o,We H1.o,WB H2.o];rfl,X6.o⟩
end
theorem PF {w:World} {g o:Nat} {xs:List Value} (h:w.rangeAt g o xs) (m:Nat) {v:Value} (hm:xs[m]?=some v):w.cell? ⟨g,o+m,none⟩=some v:=h m v hm
section
variable {w:World} {V k:Nat} {ov av mv lv:Value} {L:List VG} {x:Zq} {wv cv qv:Value}
theorem jG (h:VB w V k ov av mv lv L x wv cv qv) {j:Nat} (hj:j<L.length) :
  Calls Tryz.prog 143 (Qj (some ⟨k,0,none⟩) (j:Int)) w fun e w'=>e = .returned (.int .i64 (mA L j))∧w=w':=by
 obtain ⟨g,o,c,rfl,KQ⟩:=uL h.XE hj
 obtain ⟨g',o',c',nm,a1,n1,c1,a2,n2,c2,rfl,BD⟩:=qo h.ops hj
 have b0:w.cell? ⟨k,0,none⟩=some (.slice (some ⟨g',o',none⟩) L.length c'):=Zc h.book 0 rfl
 have b1:w.cell? ⟨k,1,none⟩=some (.slice (some ⟨g,o,none⟩) L.length c):=Zc h.book 1 rfl
 have a0:=PF KQ 0 rfl
 have p0:=PF BD 0 rfl
 rw [gX] at a0 p0
 have HX:Hid (mA L j=if (ZX L j).XE.kind≠2∨(opAt L j).kind=1 then 0 else (opAt L j).kind):=rfl
 have Al:(j:Int)<(L.length:Int):=Ou.2 hj
 generalize mA L j=X at *
 generalize (ZX L j).XE.kind=ak at *
 generalize (opAt L j).kind=kd at *
 clear h KQ BD
 by_cases h1:ak=2
 ·subst h1
  by_cases h2:kd=1
  ·subst h2
   have Vs:Hid (X=0):=by show _=_;rw [HX.o,ZQ (Wi rfl)]
   exact nN
  ·have Vs:Hid (X=kd):=by show _=_;rw [HX.o,Z4 (by rintro (h|h);exact h rfl;exact h2 h)]
   have e2:(kd == 1)=false:=by rw [WQ];exact h2
   exact nN
 ·have Vs:Hid (X=0):=by show _=_;rw [HX.o,ZQ (Ww h1)]
  have e1:(ak != 2)=true:=by rw [R6];exact h1
  exact nN
end
def XO (s:VS):List Value:=(Qf s.want s.cur s.ZR s.ZG)
theorem K3 (sv:VS) (kd q:Int) (w:World) :
  Calls Tryz.prog 144 (Qq (XO sv).toArray kd q) w fun e w'=>e = .returned (.agg (XO (Mx sv kd q)).toArray)∧Below w w w':=by
 have HX:Hid (Mx sv kd q=if kd=12 then {sv with want:=q} else if kd=10 then {sv with ZR:=true,cur:= -1} else if kd=11 then {sv with ZR:=false} else sv):=rfl
 generalize Mx sv kd q=X at *
 obtain ⟨a,c,pz,mz⟩:=sv
 dsimp only [XO] at HX ⊢
 by_cases h1:kd=12
 ·subst h1
  have Vs:Hid (X=⟨q,c,pz,mz⟩):=by show _=_;rw [HX.o,ZQ rfl]
  clear HX
  go_enter Tryz.func144,Tryz.ntmps144
  go_wp2_with fail
  refine VJ (v:= .agg (Qf q c pz mz)) ?_ rfl ?_
  ·exact results_cell_row Zr _ _ (w.heap.size+1) 202 (Qf q c pz mz) (0,0) _ Zr (V9 w _ _).2 Tryz.underlying202 rfl ZB
  exact ⟨by rw [Vs.o],ZC (Z' w _) (Zw _) _⟩
 by_cases h2:kd=10
 ·subst h2
  have Vs:Hid (X=⟨a,-1,true,mz⟩):=by show _=_;rw [HX.o,Z4 Zd,ZQ rfl]
  clear HX
  go_enter Tryz.func144,Tryz.ntmps144
  go_wp2_with fail
  refine VJ (v:= .agg (Qf a (-1) true mz)) ?_ rfl ?_
  ·exact results_cell_row Zr _ _ (w.heap.size+1) 202 (Qf a (-1) true mz) (0,0) _ Zr (V9 w _ _).2 Tryz.underlying202 rfl ZB
  exact ⟨by rw [Vs.o],ZC (Z' w _) (Zw _) _⟩
 by_cases h3:kd=11
 ·subst h3
  have Vs:Hid (X=⟨a,c,false,mz⟩):=by show _=_;rw [HX.o,Z4 Zd,Z4 Zd,ZQ rfl]
  clear HX
  go_enter Tryz.func144,Tryz.ntmps144
  go_wp2_with fail
  refine VJ (v:= .agg (Qf a c false mz)) ?_ rfl ?_
  ·exact results_cell_row Zr _ _ (w.heap.size+1) 202 (Qf a c false mz) (0,0) _ Zr (V9 w _ _).2 Tryz.underlying202 rfl ZB
  exact ⟨by rw [Vs.o],ZC (Z' w _) (Zw _) _⟩
 have Vs:Hid (X=⟨a,c,pz,mz⟩):=by show _=_;rw [HX.o,Z4 h1,Z4 h2,Z4 h3]
 have e1:(kd == 12)=false:=by rw [WQ];exact h1
 have e2:(kd == 10)=false:=by rw [WQ];exact h2
 have e3:(kd == 11)=false:=by rw [WQ];exact h3
 clear HX
 go_enter Tryz.func144,Tryz.ntmps144
 go_wp2_with fail
 refine VJ (v:= .agg (Qf a c pz mz)) ?_ rfl ?_
 ·exact results_cell_row Zr _ _ (w.heap.size+1) 202 (Qf a c pz mz) (0,0) _ Zr (V9 w _ _).2 Tryz.underlying202 rfl ZB
 exact ⟨by rw [Vs.o],ZC (Z' w _) (Zw _) _⟩
theorem Gs (V:Nat) (p s b f:Int) (wv cv qv bv:Value) (w:World) (h:w.heap[V]?=some (.cells #[bv,.int .i64 p,.int .i64 s,.int .i64 b,.int .i64 f,wv,cv,qv] 164 (0,0))) (at':Int) :
  Calls Tryz.prog 92 (Qj (some ⟨V,0,none⟩) at') w fun e w'=>e = .returned (.bool (there ⟨p,s,b,f⟩ at'))∧w=w':=by
 have c3:w.cell? ⟨V,3,none⟩=some (.int .i64 b):=Zc h 3 rfl
 have c4:w.cell? ⟨V,4,none⟩=some (.int .i64 f):=Zc h 4 rfl
 have HX:Hid (there ⟨p,s,b,f⟩ at'=(decide (b<at') && decide (at'≤f))):=rfl
 generalize there ⟨p,s,b,f⟩ at'=X at *
 clear h
 by_cases h1:b<at'
 ·have d1:decide (b<at')=true:=We h1
  go_enter Tryz.func92,Tryz.ntmps92
  go_wp2_with fail
  go_ret
  exact ⟨by rw [HX.o,d1];rfl,rfl⟩
 ·have d1:decide (b<at')=false:=WB h1
  go_enter Tryz.func92,Tryz.ntmps92
  go_wp2_with fail
  go_ret
  exact ⟨by rw [HX.o,d1];rfl,rfl⟩
theorem Gt (w:World) (at':Int):Calls Tryz.prog 92 (Qj none at') w fun e w'=>e = .returned (.bool false)∧w=w':=by
 go_enter Tryz.func92,Tryz.ntmps92
 go_wp2_with fail
 go_ret
 exact ⟨rfl,rfl⟩
theorem nG (V k:Nat) (L:List VG) (x:Zq) (wv cv qv:Value) (w:World) (h:w.heap[V]?=some (.cells (Q5 (some ⟨k,0,none⟩) x.peer x.source x.Kf x.fin wv cv qv) 164 (0,0))) (hr:Og w wv cv qv (WK L x (L.length+1))) (h0:0≤x.Kf) (h1:x.fin≤L.length) (at':Int) :
  Calls Tryz.prog 65 (Qj (some ⟨V,0,none⟩) at') w fun e w'=>e = .returned (.int .i64 (if there x at' then (Wu L x at'.toNat).cur else -1))∧w=w':=by
 obtain ⟨p,s,b,f⟩:=x
 dsimp only at h h0 h1
 have CT:=Zh (Gs V p s b f wv cv qv _ w h at')
 by_cases ht:there ⟨p,s,b,f⟩ at'=true
 ·rw [ZQ ht]
  rw [ht] at CT
  have h2:0≤at'∧at'.toNat<L.length+1:=by
   unfold there at ht
   simp only [TU,Oh] at ht
   omega
  obtain ⟨g,o,n,c,hv,hj,hc⟩:=(hr.at (OY L ⟨p,s,b,f⟩ h2.2)).cur
  obtain ⟨j,MM⟩:∃ j:Nat,at'.toNat=j:=⟨_,rfl⟩
  have Vc:at'=(j:Int):=by omega
  rw [MM] at hj hc ⊢
  subst Vc
  have Al:(j:Int)<(n:Int):=Ou.2 hj
  have v5:w.cell? ⟨V,6,none⟩=some (.slice (some ⟨g,o,none⟩) n c):=by rw [cell_of h 6,←hv];rfl
  generalize (Wu L ⟨p,s,b,f⟩ j).cur=z at *
  clear h hr ht hv h2 MM
  go_enter Tryz.func65,Tryz.ntmps65
  exact sx
 ·rw [Z4 ht]
  rw [Bool.not_eq_true] at ht
  rw [ht] at CT
  clear h hr ht
  go_enter Tryz.func65,Tryz.ntmps65
  exact sx
theorem nH (w:World) (at':Int):Calls Tryz.prog 65 (Qj none at') w fun e w'=>e = .returned (.int .i64 (-1))∧w=w':=by
 have CT:=Zh (Gt w at')
 go_enter Tryz.func65,Tryz.ntmps65
 exact sx
theorem wq (V k:Nat) (L:List VG) (x:Zq) (wv cv qv:Value) (w:World) (h:w.heap[V]?=some (.cells (Q5 (some ⟨k,0,none⟩) x.peer x.source x.Kf x.fin wv cv qv) 164 (0,0))) (hr:Og w wv cv qv (WK L x (L.length+1))) (h0:0≤x.Kf) (h1:x.fin≤L.length) (at':Int) :
  Calls Tryz.prog 64 (Qj (some ⟨V,0,none⟩) at') w fun e w'=>e = .returned (.bool (if there x at' then (Wu L x at'.toNat).quiet else true))∧w=w':=by
 obtain ⟨p,s,b,f⟩:=x
 dsimp only at h h0 h1
 have CT:=Zh (Gs V p s b f wv cv qv _ w h at')
 by_cases ht:there ⟨p,s,b,f⟩ at'=true
 ·rw [ZQ ht]
  rw [ht] at CT
  have h2:0≤at'∧at'.toNat<L.length+1:=by
   unfold there at ht
   simp only [TU,Oh] at ht
   omega
  obtain ⟨g,o,n,c,hv,hj,hc⟩:=(hr.at (OY L ⟨p,s,b,f⟩ h2.2)).quiet
  obtain ⟨j,MM⟩:∃ j:Nat,at'.toNat=j:=⟨_,rfl⟩
  have Vc:at'=(j:Int):=by omega
  rw [MM] at hj hc ⊢
  subst Vc
  have Al:(j:Int)<(n:Int):=Ou.2 hj
  have v5:w.cell? ⟨V,7,none⟩=some (.slice (some ⟨g,o,none⟩) n c):=by rw [cell_of h 7,←hv];rfl
  generalize (Wu L ⟨p,s,b,f⟩ j).quiet=z at *
  clear h hr ht hv h2 MM
  go_enter Tryz.func64,Tryz.ntmps64
  exact sx
 ·rw [Z4 ht]
  rw [Bool.not_eq_true] at ht
  rw [ht] at CT
  clear h hr ht
  go_enter Tryz.func64,Tryz.ntmps64
  exact sx
theorem wu (w:World) (at':Int):Calls Tryz.prog 64 (Qj none at') w fun e w'=>e = .returned (.bool true)∧w=w':=by
 have CT:=Zh (Gt w at')
 go_enter Tryz.func64,Tryz.ntmps64
 exact sx
end Go.Proofs.By
namespace Go.Proofs.By
open Go.RowKit Go.Proofs.Heap Go.Proofs
open Go.Proofs.Rm (below_drewN)
structure NX (w w':World) (oc:Array Value) (s:VS):Prop where
 Zj:Below w w w'
 st:w'.heap[w.heap.size]?=some (.cells (XO s).toArray 202 (0,0))
 z:w'.heap[w.heap.size+1]?=some (.cells (Qf 0 0 false false) 202 (0,0))
 op:w'.heap[w.heap.size+2]?=some (.cells oc 32 (0,0))
theorem Hw (s:VS):(XO s).toArray.all (·.oneCell')=true:=by obtain ⟨a,b,c,d⟩:=s;kernel_rfl
section
variable {w w1 w2:World} {oc:Array Value} {s:VS}
theorem NX.below (h:NX w w1 oc s) (hb:Below w1 w1 w2):NX w w2 oc s:=⟨h.Zj.trans (hb.mono h.Zj.size),(hb.block _ (ZV h.st)).trans h.st,(hb.block _ (ZV h.z)).trans h.z,(hb.block _ (ZV h.op)).trans h.op⟩
theorem NX.set (h:NX w w1 oc s) (j:Nat) (u:Value) (s':VS) (hs:(XO s).set j u=XO s'):NX w (w1.setCell ⟨w,j,none⟩ u) oc s':=by
 have h2:=VM h.st j u
 rw [List.setIfInBounds_toArray,hs] at h2
 exact ⟨((Fr.Z8 P_ h.Zj).setCell (p:=⟨w,j,none⟩) (Ww (Zw _)) _).below,h2,(MW w1 ⟨w,j,none⟩ u (w.heap.size+1) (by show w.heap.size+1≠w.heap.size;omega)).trans h.z,(MW w1 ⟨w,j,none⟩ u (w.heap.size+2) (by show w.heap.size+2≠w.heap.size;omega)).trans h.op⟩
theorem NX.row (h:NX w w1 oc s) (s':VS):NX w (w1.setRow w.heap.size (XO s').toArray) oc s':=
 ⟨Z3 h.Zj (Zw _) _,setRow_heap _ _ _ _ _ _ h.st,by rw [setRow_other _ _ _ _ Zo];exact h.z,by rw [setRow_other _ _ _ _ Zo];exact h.op⟩
end
section
variable {w:World} {V k:Nat} {ov av mv lv:Value} {L:List VG} {x:Zq} {wv cv qv:Value}
theorem se (h:VB w V k ov av mv lv L x wv cv qv) {j:Nat} (hj:j<L.length) {s:VS} (hs:fX w wv cv qv j s) :
  Calls Tryz.prog 114 (Q1 (some ⟨V,0,none⟩) (XO s).toArray (j:Int)) w fun e w'=>e = .returned (.agg (XO (AP L x s j)).toArray)∧Below w w w':=by
 obtain ⟨g,o,c,nm,a1,n1,c1,a2,n2,c2,aZ,BD⟩:=qo h.ops hj
 obtain ⟨g9,o9,c9,x1,y1,z1,x2,y2,z2,x3,y3,z3,px,hmed⟩:=Ks h hj
 subst aZ
 subst px
 have CO:=Zh (fun (w':World) (hb:Below w w w')=>jG (h.below hb) hj)
 have CP:=Zh (fun (w':World) (hb:Below w w w')=>Jx (h.below hb) hj)
 have CN:=Zh (fun (w':World) (hb:Below w w w')=>TK (h.below hb) hj (hs.below hb))
 have Bw:Hid (∀ w',Below w w w'→w'.heap[V]?=some (.cells (Q5 (some ⟨k,0,none⟩) x.peer x.source x.Kf x.fin wv cv qv) 164 (0,0))):=fun w' hb=>(hb.block _ (ZV h.view)).trans h.view
 have zh:Hid (∀ w',Below w w w'→w'.heap[k]?=some (.cells #[.slice (some ⟨g,o,none⟩) L.length c,av,.slice (some ⟨g9,o9,none⟩) L.length c9,lv] 116 (0,0))):=fun w' hb=>(hb.block _ (ZV h.book)).trans h.book
 have HLY:Hid (∀ w',Below w w w'→w'.cell? ⟨g9,o9+j*15+11,none⟩=some (.int .i64 (ZX L j).Wo.ZF)):=fun w' hb=>Yi (PF hmed 11 rfl) hb
 have v0:w.cell? ⟨V,0,none⟩=some (.pointer (some ⟨k,0,none⟩)):=Zc h.view 0 rfl
 have b0:w.cell? ⟨k,0,none⟩=some (.slice (some ⟨g,o,none⟩) L.length c):=Zc h.book 0 rfl
 have HX:Hid (AP L x s j=if Tk L x j && Ug s (ZX L j).Wo then {Ec L x s j with cur:=(ZX L j).Wo.ZF} else Ec L x s j):=rfl
 have HC:Hid (Ec L x s j=if (opAt L j).source=x.source then (if (opAt L j).peer=x.peer∧OP x j=true then Mx (YN s (mA L j)) (mA L j) (opAt L j).ZF else YN s (mA L j)) else s):=rfl
 have Al:(j:Int)<(L.length:Int):=Ou.2 hj
 have hVl:=ZV h.view
 have VR:=ZV h.book
 clear h hs hmed
 generalize AP L x s j=X at *
 generalize Ec L x s j=C at *
 generalize mA L j=KD at *
 generalize Tk L x j=pk at *
 generalize Ug s (ZX L j).Wo=opn at *
 generalize (ZX L j).Wo.ZF=ly at *
 obtain ⟨xp,xs,xb,xf⟩:=x
 generalize opAt L j=O at *
 obtain ⟨kd,p,sr,q,nm0,ss0⟩:=O
 dsimp only at HC BD Bw
 have hop2:((w.alloc (.cells (Qf s.want s.cur s.ZR s.ZG) 202)).alloc (.cells (Qf 0 0 false false) 202)).rangeAt g (o+j*7) (Qa kd p sr q nm a1 n1 c1 a2 n2 c2):=fun m v hm=>Yi (BD m v hm) (ZC (Z' w _) (Zw _) _)
 dsimp only [XO]
 have hz:((((w.alloc (.cells (Qf s.want s.cur s.ZR s.ZG) 202)).alloc (.cells (Qf 0 0 false false) 202))).alloc (.cells Mf 32)).heap[w.heap.size+2]?=some (.cells Mf 32 (0,0)):=by
  have h:=Z7 ((w.alloc (.cells (Qf s.want s.cur s.ZR s.ZG) 202)).alloc (.cells (Qf 0 0 false false) 202)) (.cells Mf 32)
  rw [size_alloc,size_alloc] at h
  exact h
 have yM:Hid (NX w (((((w.alloc (.cells (Qf s.want s.cur s.ZR s.ZG) 202)).alloc (.cells (Qf 0 0 false false) 202))).alloc (.cells Mf 32)).setRow (w.heap.size+2) (Qa kd p sr q nm a1 n1 c1 a2 n2 c2)) (Qa kd p sr q nm a1 n1 c1 a2 n2 c2) s):=by
  obtain ⟨q1,q2⟩:=V9 w (.cells (Qf s.want s.cur s.ZR s.ZG) 202) (.cells (Qf 0 0 false false) 202)
  have q3:=Z' ((w.alloc (.cells (Qf s.want s.cur s.ZR s.ZG) 202)).alloc (.cells (Qf 0 0 false false) 202)) (.cells Mf 32)
  refine ⟨Z3 (ZC (ZC (Z' w _) (Zw _) _) (Zw _) _) Zo _,?_,?_,setRow_heap _ _ _ _ _ _ hz⟩
  ·rw [setRow_other _ _ _ _ Zo];exact (q3.block _ (ZV q1)).trans q1
  ·rw [setRow_other _ _ _ _ Zo];exact (q3.block _ (ZV q2)).trans q2
 go_enter Tryz.func114,Tryz.ntmps114
 go_upto_region 2 with (first|(with_reducible refine Y8 32 (.tmp 16) rfl ?_;refine wpList_load_mid rfl 32 (.tmp 16) rfl g (o+j*7) rfl (Qa kd p sr q nm a1 n1 c1 a2 n2 c2) _ hop2 Tryz.underlying32 rfl ZB ?_)|(with_reducible refine ZU 32 (.tmp 7) (.tmp 17) rfl ?_;refine ZW rfl 32 (.tmp 7) (.tmp 17) rfl rfl (w.heap.size+2) (Qa kd p sr q nm a1 n1 c1 a2 n2 c2) rfl rfl 32 Mf hz ZB ZB ZB ?_))
 clear hz BD hop2 v0 b0
 generalize (((((w.alloc (.cells (Qf s.want s.cur s.ZR s.ZG) 202)).alloc (.cells (Qf 0 0 false false) 202))).alloc (.cells Mf 32)).setRow (w.heap.size+2) (Qa kd p sr q nm a1 n1 c1 a2 n2 c2))=w3 at *
 have o2:w3.cell? ⟨w.heap.size+2,2,none⟩=some (.int .i64 sr):=Zc yM.o.op 2 rfl
 have z2':w3.cell? ⟨V,2,none⟩=some (.int .i64 xs):=Zc (Bw.o _ yM.o.Zj) 2 rfl
 go_quiet (fail)
 have L9:=Zh (yM.o.below (below_drewN (YH _ _) nq))
 clear yM o2 z2'
 generalize w3.drewN nq=w4 at *
 go_upto_if 25 with fail
 go_cut [] (fun wx=>NX w wx (Qa kd p sr q nm a1 n1 c1 a2 n2 c2) C)
 case first=>
  by_cases hs:sr=xs
  rotate_left
  ·have f:(sr == xs)=false:=by rw [WQ];exact hs
   have DW:Hid (C=s):=by show _=_;rw [HC.o,Z4 hs]
   go_wp2_with fail
   go_meet
   rw [DW.o]
   exact L9.o
  have DW:Hid (C=if p=xp∧OP ⟨xp,xs,xb,xf⟩ j=true then Mx (YN s KD) KD q else YN s KD):=by show _=_;rw [HC.o,ZQ hs]
  have f:(sr == xs)=true:=by rw [beq_iff_eq];exact hs
  have fI:=Zh (CO.o _ L9.o.Zj)
  have v0:w4.cell? ⟨V,0,none⟩=some (.pointer (some ⟨k,0,none⟩)):=Zc (Bw.o _ L9.o.Zj) 0 rfl
  clear HC hs
  have hKK:KD=4∨KD=9∨KD=8∨(KD≠4∧KD≠9∧KD≠8):=by omega
  rcases hKK with hK|hK|hK|⟨hK4,hK9,hK8⟩
  ·subst hK
   have u1:=cell_of L9.o.st 1
   have u3:=cell_of L9.o.st 3
   have f1:=ZO L9.o.st 1
   have f3:=ZO L9.o.st 3
   simp only [XO,SK,S6,SJ] at u1 u3
   go_upto_region 9 with (go_at_call 143;refine fI.o.mono ?_;rintro e w' ⟨rfl,rfl⟩)
   have L_:Hid (NX w (w4.setCell ⟨w,3,none⟩ (.bool false)) (Qa kd p sr q nm a1 n1 c1 a2 n2 c2) (YN s 4)):=L9.o.set 3 (.bool false) ⟨s.want,s.cur,s.ZR,false⟩ rfl
   clear L9 u1 u3 f1 f3 v0 fI
   generalize w4.setCell ⟨w,3,none⟩ (.bool false)=w5 at *
   have p1:w5.cell? ⟨w.heap.size+2,1,none⟩=some (.int .i64 p):=Zc L_.o.op 1 rfl
   have fF:w5.cell? ⟨V,1,none⟩=some (.int .i64 xp):=Zc (Bw.o _ L_.o.Zj) 1 rfl
   by_cases hp:p=xp
   rotate_left
   ·have fp:(p == xp)=false:=by rw [WQ];exact hp
    have Ic:Hid (C=YN s 4):=by show _=_;rw [DW.o,Z4 (fun h=>hp h.1)]
    go_quiet (fail)
    exact nT
   have fp:(p == xp)=true:=by rw [beq_iff_eq];exact hp
   have CL:Hid (∀ n,Calls Tryz.prog 115 (Qj (some ⟨V,0,none⟩) (j:Int)) (w5.drewN n) fun e w'=>e = .returned (.bool (OP ⟨xp,xs,xb,xf⟩ (j:Int)))∧w'=w5.drewN n):=fun n=>(O8 V xp xs xb xf wv cv qv _ (w5.drewN n) (Bw.o w5 L_.o.Zj) (j:Int)).mono fun e w' ⟨a,b⟩=>⟨a,b.symm⟩
   generalize OP ⟨xp,xs,xb,xf⟩ (j:Int)=l at *
   cases l with
   | false=>
    have Ic:Hid (C=YN s 4):=by show _=_;rw [DW.o,Z4 (fun h=>absurd h.2 Zd)]
    exact jR
   | true=>
    have Ic:Hid (C=Mx (YN s 4) 4 q):=by show _=_;rw [DW.o,ZQ ⟨hp,rfl⟩]
    go_quiet ((go_at_call 115;exact Calls.quiet_of_same (CL.o _)))
    have II:=Zh (L_.o.below (below_drewN (YH _ _) nq))
    clear p1 fF CL L_
    generalize w5.drewN nq=w6 at *
    have Zz:Hid (∀ w',Below w6 w6 w'→w'.rangeAt w.heap.size 0 (Qf (YN s 4).want (YN s 4).cur (YN s 4).ZR (YN s 4).ZG)∧w'.cell? ⟨V,0,none⟩=some (.pointer (some ⟨k,0,none⟩))∧w'.cell? ⟨w.heap.size+2,3,none⟩=some (.int .i64 q)∧Below w6 w6 w'):=fun w' hb=>
     ⟨fun m v hm=>by rw [QP,cell_of (II.o.below hb).st m];simpa [XO] using hm,Zc (Bw.o _ (II.o.below hb).Zj) 0 rfl,by rw [cell_of (II.o.below hb).op 3];rfl,hb⟩
    have bD:=Zh (CO.o _ (II.o.below (YH _ _).drew).Zj)
    have mD:=Zh (K3 (YN s 4) 4 q w6.drew)
    go_upto_region 10 with fail
    refine Sd ?_
    refine Z_.Zu (d:=10) (S:=(fun w'=>w'.rangeAt w.heap.size 0 (Qf (YN s 4).want (YN s 4).cur (YN s 4).ZR (YN s 4).ZG)∧w'.cell? ⟨V,0,none⟩=some (.pointer (some ⟨k,0,none⟩))∧w'.cell? ⟨w.heap.size+2,3,none⟩=some (.int .i64 q)∧Below w6 w6 w')) ZB ?_ (fun _=>?_)
    ·(try dsimp only)
     exact Zz.o _ (YH _ _).drew
    refine YP 1 (h:=YP 2 (h:=YP 3 (h:=YP 5 (h:=YP 7 (h:=?_)))))
    refine Z_.tk 0 ?_ rfl ?_ <| ?_
    rotate_left
    ·intro wS TE;(try dsimp only at TE)
     refine (Xw 202 (.tmp 4) ?_ w.heap.size 0 ?_ (Qf (YN s 4).want (YN s 4).cur (YN s 4).ZR (YN s 4).ZG) _ TE.1 Tryz.underlying202 rfl ZB).trans ?_
     all_goals rfl
    try simp only [Z_.pt]
    refine YK 4 (h:=YK 8 (h:=?_))
    refine YR 6 (h:=fun K hK=>?_)
    go_simp
    refine bD.o.mono ?_
    rintro e w' ⟨rfl,rfl⟩
    go_wp2_with fail
    refine Z_.Y_ hK _ _ ?_ (fun _=>?_)
    ·(try dsimp only)
     exact Zz.o _ zJ
    clear hK K
    try simp only [Z_.pt]
    refine YR 9 (h:=fun K hK=>?_)
    go_simp
    refine mD.o.mono ?_
    rintro e w7 ⟨rfl,MK⟩
    have BJ:=Zh ((YH w6.heap.size w6).drew.trans MK)
    clear MK
    go_wp2_with fail
    refine Z_.Y_ hK _ _ ?_ (fun _=>?_)
    ·(try dsimp only)
     exact Zz.o _ zJ
    clear hK K
    try simp only [Z_.pt]
    refine YR 10 (h:=fun K hK=>?_)
    have fT:=Zh (II.o.below BJ.o)
    refine Sz Zr 202 (.tmp 4) (.tmp 62) Zr Zr w.heap.size (XO (Mx (YN s 4) 4 q)).toArray Zr Zr 202 _ fT.o.st ZB Zr (Hw _) ?_
    exact jX
  ·subst hK
   have u1:=cell_of L9.o.st 1
   have u3:=cell_of L9.o.st 3
   have f1:=ZO L9.o.st 1
   have f3:=ZO L9.o.st 3
   simp only [XO,SK,S6,SJ] at u1 u3
   go_upto_region 9 with (go_at_call 143;refine fI.o.mono ?_;rintro e w' ⟨rfl,rfl⟩)
   have L_:Hid (NX w (w4.setCell ⟨w,3,none⟩ (.bool false)) (Qa kd p sr q nm a1 n1 c1 a2 n2 c2) (YN s 9)):=L9.o.set 3 (.bool false) ⟨s.want,s.cur,s.ZR,false⟩ rfl
   clear L9 u1 u3 f1 f3 v0 fI
   generalize w4.setCell ⟨w,3,none⟩ (.bool false)=w5 at *
   have p1:w5.cell? ⟨w.heap.size+2,1,none⟩=some (.int .i64 p):=Zc L_.o.op 1 rfl
   have fF:w5.cell? ⟨V,1,none⟩=some (.int .i64 xp):=Zc (Bw.o _ L_.o.Zj) 1 rfl
   by_cases hp:p=xp
   rotate_left
   ·have fp:(p == xp)=false:=by rw [WQ];exact hp
    have Ic:Hid (C=YN s 9):=by show _=_;rw [DW.o,Z4 (fun h=>hp h.1)]
    go_quiet (fail)
    exact nT
   have fp:(p == xp)=true:=by rw [beq_iff_eq];exact hp
   have CL:Hid (∀ n,Calls Tryz.prog 115 (Qj (some ⟨V,0,none⟩) (j:Int)) (w5.drewN n) fun e w'=>e = .returned (.bool (OP ⟨xp,xs,xb,xf⟩ (j:Int)))∧w'=w5.drewN n):=fun n=>(O8 V xp xs xb xf wv cv qv _ (w5.drewN n) (Bw.o w5 L_.o.Zj) (j:Int)).mono fun e w' ⟨a,b⟩=>⟨a,b.symm⟩
   generalize OP ⟨xp,xs,xb,xf⟩ (j:Int)=l at *
   cases l with
   | false=>
    have Ic:Hid (C=YN s 9):=by show _=_;rw [DW.o,Z4 (fun h=>absurd h.2 Zd)]
    exact jR
   | true=>
    have Ic:Hid (C=Mx (YN s 9) 9 q):=by show _=_;rw [DW.o,ZQ ⟨hp,rfl⟩]
    go_quiet ((go_at_call 115;exact Calls.quiet_of_same (CL.o _)))
    have II:=Zh (L_.o.below (below_drewN (YH _ _) nq))
    clear p1 fF CL L_
    generalize w5.drewN nq=w6 at *
    have Zz:Hid (∀ w',Below w6 w6 w'→w'.rangeAt w.heap.size 0 (Qf (YN s 9).want (YN s 9).cur (YN s 9).ZR (YN s 9).ZG)∧w'.cell? ⟨V,0,none⟩=some (.pointer (some ⟨k,0,none⟩))∧w'.cell? ⟨w.heap.size+2,3,none⟩=some (.int .i64 q)∧Below w6 w6 w'):=fun w' hb=>
     ⟨fun m v hm=>by rw [QP,cell_of (II.o.below hb).st m];simpa [XO] using hm,Zc (Bw.o _ (II.o.below hb).Zj) 0 rfl,by rw [cell_of (II.o.below hb).op 3];rfl,hb⟩
    have bD:=Zh (CO.o _ (II.o.below (YH _ _).drew).Zj)
    have mD:=Zh (K3 (YN s 9) 9 q w6.drew)
    go_upto_region 10 with fail
    refine Sd ?_
    refine Z_.Zu (d:=10) (S:=(fun w'=>w'.rangeAt w.heap.size 0 (Qf (YN s 9).want (YN s 9).cur (YN s 9).ZR (YN s 9).ZG)∧w'.cell? ⟨V,0,none⟩=some (.pointer (some ⟨k,0,none⟩))∧w'.cell? ⟨w.heap.size+2,3,none⟩=some (.int .i64 q)∧Below w6 w6 w')) ZB ?_ (fun _=>?_)
    ·(try dsimp only)
     exact Zz.o _ (YH _ _).drew
    refine YP 1 (h:=YP 2 (h:=YP 3 (h:=YP 5 (h:=YP 7 (h:=?_)))))
    refine Z_.tk 0 ?_ rfl ?_ <| ?_
    rotate_left
    ·intro wS TE;(try dsimp only at TE)
     refine (Xw 202 (.tmp 4) ?_ w.heap.size 0 ?_ (Qf (YN s 9).want (YN s 9).cur (YN s 9).ZR (YN s 9).ZG) _ TE.1 Tryz.underlying202 rfl ZB).trans ?_
     all_goals rfl
    try simp only [Z_.pt]
    refine YK 4 (h:=YK 8 (h:=?_))
    refine YR 6 (h:=fun K hK=>?_)
    go_simp
    refine bD.o.mono ?_
    rintro e w' ⟨rfl,rfl⟩
    go_wp2_with fail
    refine Z_.Y_ hK _ _ ?_ (fun _=>?_)
    ·(try dsimp only)
     exact Zz.o _ zJ
    clear hK K
    try simp only [Z_.pt]
    refine YR 9 (h:=fun K hK=>?_)
    go_simp
    refine mD.o.mono ?_
    rintro e w7 ⟨rfl,MK⟩
    have BJ:=Zh ((YH w6.heap.size w6).drew.trans MK)
    clear MK
    go_wp2_with fail
    refine Z_.Y_ hK _ _ ?_ (fun _=>?_)
    ·(try dsimp only)
     exact Zz.o _ zJ
    clear hK K
    try simp only [Z_.pt]
    refine YR 10 (h:=fun K hK=>?_)
    have fT:=Zh (II.o.below BJ.o)
    refine Sz Zr 202 (.tmp 4) (.tmp 62) Zr Zr w.heap.size (XO (Mx (YN s 9) 9 q)).toArray Zr Zr 202 _ fT.o.st ZB Zr (Hw _) ?_
    exact jX
  ·subst hK
   have u1:=cell_of L9.o.st 1
   have u3:=cell_of L9.o.st 3
   have f1:=ZO L9.o.st 1
   have f3:=ZO L9.o.st 3
   simp only [XO,SK,S6,SJ] at u1 u3
   go_upto_region 9 with (go_at_call 143;refine fI.o.mono ?_;rintro e w' ⟨rfl,rfl⟩)
   have L_:Hid (NX w ((w4.setCell ⟨w,3,none⟩ (.bool true)).setCell ⟨w,1,none⟩ (.int .i64 (-1))) (Qa kd p sr q nm a1 n1 c1 a2 n2 c2) (YN s 8)):=(L9.o.set 3 (.bool true) ⟨s.want,s.cur,s.ZR,true⟩ rfl).set 1 (.int .i64 (-1)) ⟨s.want,-1,s.ZR,true⟩ rfl
   clear L9 u1 u3 f1 f3 v0 fI
   generalize (w4.setCell ⟨w,3,none⟩ (.bool true)).setCell ⟨w,1,none⟩ (.int .i64 (-1))=w5 at *
   have p1:w5.cell? ⟨w.heap.size+2,1,none⟩=some (.int .i64 p):=Zc L_.o.op 1 rfl
   have fF:w5.cell? ⟨V,1,none⟩=some (.int .i64 xp):=Zc (Bw.o _ L_.o.Zj) 1 rfl
   by_cases hp:p=xp
   rotate_left
   ·have fp:(p == xp)=false:=by rw [WQ];exact hp
    have Ic:Hid (C=YN s 8):=by show _=_;rw [DW.o,Z4 (fun h=>hp h.1)]
    go_quiet (fail)
    exact nT
   have fp:(p == xp)=true:=by rw [beq_iff_eq];exact hp
   have CL:Hid (∀ n,Calls Tryz.prog 115 (Qj (some ⟨V,0,none⟩) (j:Int)) (w5.drewN n) fun e w'=>e = .returned (.bool (OP ⟨xp,xs,xb,xf⟩ (j:Int)))∧w'=w5.drewN n):=fun n=>(O8 V xp xs xb xf wv cv qv _ (w5.drewN n) (Bw.o w5 L_.o.Zj) (j:Int)).mono fun e w' ⟨a,b⟩=>⟨a,b.symm⟩
   generalize OP ⟨xp,xs,xb,xf⟩ (j:Int)=l at *
   cases l with
   | false=>
    have Ic:Hid (C=YN s 8):=by show _=_;rw [DW.o,Z4 (fun h=>absurd h.2 Zd)]
    exact jR
   | true=>
    have Ic:Hid (C=Mx (YN s 8) 8 q):=by show _=_;rw [DW.o,ZQ ⟨hp,rfl⟩]
    go_quiet ((go_at_call 115;exact Calls.quiet_of_same (CL.o _)))
    have II:=Zh (L_.o.below (below_drewN (YH _ _) nq))
    clear p1 fF CL L_
    generalize w5.drewN nq=w6 at *
    have Zz:Hid (∀ w',Below w6 w6 w'→w'.rangeAt w.heap.size 0 (Qf (YN s 8).want (YN s 8).cur (YN s 8).ZR (YN s 8).ZG)∧w'.cell? ⟨V,0,none⟩=some (.pointer (some ⟨k,0,none⟩))∧w'.cell? ⟨w.heap.size+2,3,none⟩=some (.int .i64 q)∧Below w6 w6 w'):=fun w' hb=>
     ⟨fun m v hm=>by rw [QP,cell_of (II.o.below hb).st m];simpa [XO] using hm,Zc (Bw.o _ (II.o.below hb).Zj) 0 rfl,by rw [cell_of (II.o.below hb).op 3];rfl,hb⟩
    have bD:=Zh (CO.o _ (II.o.below (YH _ _).drew).Zj)
    have mD:=Zh (K3 (YN s 8) 8 q w6.drew)
    go_upto_region 10 with fail
    refine Sd ?_
    refine Z_.Zu (d:=10) (S:=(fun w'=>w'.rangeAt w.heap.size 0 (Qf (YN s 8).want (YN s 8).cur (YN s 8).ZR (YN s 8).ZG)∧w'.cell? ⟨V,0,none⟩=some (.pointer (some ⟨k,0,none⟩))∧w'.cell? ⟨w.heap.size+2,3,none⟩=some (.int .i64 q)∧Below w6 w6 w')) ZB ?_ (fun _=>?_)
    ·(try dsimp only)
     exact Zz.o _ (YH _ _).drew
    refine YP 1 (h:=YP 2 (h:=YP 3 (h:=YP 5 (h:=YP 7 (h:=?_)))))
    refine Z_.tk 0 ?_ rfl ?_ <| ?_
    rotate_left
    ·intro wS TE;(try dsimp only at TE)
     refine (Xw 202 (.tmp 4) ?_ w.heap.size 0 ?_ (Qf (YN s 8).want (YN s 8).cur (YN s 8).ZR (YN s 8).ZG) _ TE.1 Tryz.underlying202 rfl ZB).trans ?_
     all_goals rfl
    try simp only [Z_.pt]
    refine YK 4 (h:=YK 8 (h:=?_))
    refine YR 6 (h:=fun K hK=>?_)
    go_simp
    refine bD.o.mono ?_
    rintro e w' ⟨rfl,rfl⟩
    go_wp2_with fail
    refine Z_.Y_ hK _ _ ?_ (fun _=>?_)
    ·(try dsimp only)
     exact Zz.o _ zJ
    clear hK K
    try simp only [Z_.pt]
    refine YR 9 (h:=fun K hK=>?_)
    go_simp
    refine mD.o.mono ?_
    rintro e w7 ⟨rfl,MK⟩
    have BJ:=Zh ((YH w6.heap.size w6).drew.trans MK)
    clear MK
    go_wp2_with fail
    refine Z_.Y_ hK _ _ ?_ (fun _=>?_)
    ·(try dsimp only)
     exact Zz.o _ zJ
    clear hK K
    try simp only [Z_.pt]
    refine YR 10 (h:=fun K hK=>?_)
    have fT:=Zh (II.o.below BJ.o)
    refine Sz Zr 202 (.tmp 4) (.tmp 62) Zr Zr w.heap.size (XO (Mx (YN s 8) 8 q)).toArray Zr Zr 202 _ fT.o.st ZB Zr (Hw _) ?_
    exact jX
  ·have g4:(KD == 4)=false:=by rw [WQ];exact hK4
   have g9:(KD == 9)=false:=by rw [WQ];exact hK9
   have g8:(KD == 8)=false:=by rw [WQ];exact hK8
   have qX:Hid (YN s KD=s):=by show _=_;unfold YN;rw [Z4 Zo,Z4 hK8]
   have bK:Hid (C=if p=xp∧OP ⟨xp,xs,xb,xf⟩ j=true then Mx s KD q else s):=by show _=_;rw [DW.o,qX.o]
   clear DW qX
   have DW:=bK
   clear bK
   go_upto_region 9 with (go_at_call 143;refine fI.o.mono ?_;rintro e w' ⟨rfl,rfl⟩)
   have L_:=L9
   clear L9 v0 fI
   obtain ⟨w5,rfl⟩:∃ W:World,W=w4:=⟨_,rfl⟩
   have p1:w5.cell? ⟨w.heap.size+2,1,none⟩=some (.int .i64 p):=Zc L_.o.op 1 rfl
   have fF:w5.cell? ⟨V,1,none⟩=some (.int .i64 xp):=Zc (Bw.o _ L_.o.Zj) 1 rfl
   by_cases hp:p=xp
   rotate_left
   ·have fp:(p == xp)=false:=by rw [WQ];exact hp
    have Ic:Hid (C=s):=by show _=_;rw [DW.o,Z4 (fun h=>hp h.1)]
    go_quiet (fail)
    exact nT
   have fp:(p == xp)=true:=by rw [beq_iff_eq];exact hp
   have CL:Hid (∀ n,Calls Tryz.prog 115 (Qj (some ⟨V,0,none⟩) (j:Int)) (w5.drewN n) fun e w'=>e = .returned (.bool (OP ⟨xp,xs,xb,xf⟩ (j:Int)))∧w'=w5.drewN n):=fun n=>(O8 V xp xs xb xf wv cv qv _ (w5.drewN n) (Bw.o w5 L_.o.Zj) (j:Int)).mono fun e w' ⟨a,b⟩=>⟨a,b.symm⟩
   generalize OP ⟨xp,xs,xb,xf⟩ (j:Int)=l at *
   cases l with
   | false=>
    have Ic:Hid (C=s):=by show _=_;rw [DW.o,Z4 (fun h=>absurd h.2 Zd)]
    exact jR
   | true=>
    have Ic:Hid (C=Mx (s) KD q):=by show _=_;rw [DW.o,ZQ ⟨hp,rfl⟩]
    go_quiet ((go_at_call 115;exact Calls.quiet_of_same (CL.o _)))
    have II:=Zh (L_.o.below (below_drewN (YH _ _) nq))
    clear p1 fF CL L_
    generalize w5.drewN nq=w6 at *
    have Zz:Hid (∀ w',Below w6 w6 w'→w'.rangeAt w.heap.size 0 (Qf (s).want (s).cur (s).ZR (s).ZG)∧w'.cell? ⟨V,0,none⟩=some (.pointer (some ⟨k,0,none⟩))∧w'.cell? ⟨w.heap.size+2,3,none⟩=some (.int .i64 q)∧Below w6 w6 w'):=fun w' hb=>
     ⟨fun m v hm=>by rw [QP,cell_of (II.o.below hb).st m];simpa [XO] using hm,Zc (Bw.o _ (II.o.below hb).Zj) 0 rfl,by rw [cell_of (II.o.below hb).op 3];rfl,hb⟩
    have bD:=Zh (CO.o _ (II.o.below (YH _ _).drew).Zj)
    have mD:=Zh (K3 (s) KD q w6.drew)
    go_upto_region 10 with fail
    refine Sd ?_
    refine Z_.Zu (d:=10) (S:=(fun w'=>w'.rangeAt w.heap.size 0 (Qf (s).want (s).cur (s).ZR (s).ZG)∧w'.cell? ⟨V,0,none⟩=some (.pointer (some ⟨k,0,none⟩))∧w'.cell? ⟨w.heap.size+2,3,none⟩=some (.int .i64 q)∧Below w6 w6 w')) ZB ?_ (fun _=>?_)
    ·(try dsimp only)
     exact Zz.o _ (YH _ _).drew
    refine YP 1 (h:=YP 2 (h:=YP 3 (h:=YP 5 (h:=YP 7 (h:=?_)))))
    refine Z_.tk 0 ?_ rfl ?_ <| ?_
    rotate_left
    ·intro wS TE;(try dsimp only at TE)
     refine (Xw 202 (.tmp 4) ?_ w.heap.size 0 ?_ (Qf (s).want (s).cur (s).ZR (s).ZG) _ TE.1 Tryz.underlying202 rfl ZB).trans ?_
     all_goals rfl
    try simp only [Z_.pt]
    refine YK 4 (h:=YK 8 (h:=?_))
    refine YR 6 (h:=fun K hK=>?_)
    go_simp
    refine bD.o.mono ?_
    rintro e w' ⟨rfl,rfl⟩
    go_wp2_with fail
    refine Z_.Y_ hK _ _ ?_ (fun _=>?_)
    ·(try dsimp only)
     exact Zz.o _ zJ
    clear hK K
    try simp only [Z_.pt]
    refine YR 9 (h:=fun K hK=>?_)
    go_simp
    refine mD.o.mono ?_
    rintro e w7 ⟨rfl,MK⟩
    have BJ:=Zh ((YH w6.heap.size w6).drew.trans MK)
    clear MK
    go_wp2_with fail
    refine Z_.Y_ hK _ _ ?_ (fun _=>?_)
    ·(try dsimp only)
     exact Zz.o _ zJ
    clear hK K
    try simp only [Z_.pt]
    refine YR 10 (h:=fun K hK=>?_)
    have fT:=Zh (II.o.below BJ.o)
    refine Sz Zr 202 (.tmp 4) (.tmp 62) Zr Zr w.heap.size (XO (Mx (s) KD q)).toArray Zr Zr 202 _ fT.o.st ZB Zr (Hw _) ?_
    exact jX
 case rest=>
  obtain ⟨w9,rfl⟩:∃ W:World,W=wc:=⟨_,rfl⟩
  have az:=Zh hcut
  clear hcut L9 HC CO
  have CP9:=Zh (CP.o _ az.o.Zj)
  obtain ⟨ca,cc,cp,cm⟩:=C
  cases pk with
  | false=>
   have Vs:Hid (X=⟨ca,cc,cp,cm⟩):=by show _=_;rw [HX.o];rfl
   clear HX CN
   go_wp2_with (first|(go_at_call 88;refine CP9.o.mono ?_;rintro e SA ⟨rfl,Ny⟩;have KL:=Zh (az.o.below Ny);have kA:SA.heap[w.heap.size]?=some (.cells (Qf ca cc cp cm) 202 (0,0)):=KL.o.st;have zA:=KL.o.z;clear Ny)|(with_reducible refine Y8 202 (.tmp 4) rfl ?_;refine Y9 rfl 202 (.tmp 4) rfl w.heap.size rfl 202 (Qf ca cc cp cm) (0,0) _ kA Tryz.underlying202 rfl ZB ?_)|(with_reducible refine ZU 202 (.tmp 6) (.tmp 84) rfl ?_;refine ZW rfl 202 (.tmp 6) (.tmp 84) rfl rfl (w.heap.size+1) (Qf ca cc cp cm) rfl rfl 202 (Qf 0 0 false false) zA ZB ZB ZB ?_))
   exact Yx90
  | true=>
   cases opn with
   | false=>
    have Vs:Hid (X=⟨ca,cc,cp,cm⟩):=by show _=_;rw [HX.o];rfl
    clear HX
    go_wp2_with (first|(go_at_call 88;refine CP9.o.mono ?_;rintro e SA ⟨rfl,Ny⟩;have KL:=Zh (az.o.below Ny);have kA:SA.heap[w.heap.size]?=some (.cells (Qf ca cc cp cm) 202 (0,0)):=KL.o.st;have zA:=KL.o.z;have bC:=Zh (CN.o _ KL.o.Zj);clear Ny)|(go_at_call 89;refine bC.o.mono ?_;rintro e FX ⟨rfl,oX⟩;have js:=Zh (KL.o.below oX);clear KL kA zA oX;obtain ⟨SA,rfl⟩:∃ W:World,W=FX:=⟨_,rfl⟩;have KL:=js;clear js;have kA:SA.heap[w.heap.size]?=some (.cells (Qf ca cc cp cm) 202 (0,0)):=KL.o.st;have zA:=KL.o.z)|(with_reducible refine Y8 202 (.tmp 4) rfl ?_;refine Y9 rfl 202 (.tmp 4) rfl w.heap.size rfl 202 (Qf ca cc cp cm) (0,0) _ kA Tryz.underlying202 rfl ZB ?_)|(with_reducible refine ZU 202 (.tmp 6) (.tmp 84) rfl ?_;refine ZW rfl 202 (.tmp 6) (.tmp 84) rfl rfl (w.heap.size+1) (Qf ca cc cp cm) rfl rfl 202 (Qf 0 0 false false) zA ZB ZB ZB ?_))
    exact Yx90
   | true=>
    have Vs:Hid (X=⟨ca,ly,cp,cm⟩):=by show _=_;rw [HX.o];rfl
    clear HX
    go_upto_region 12 with (first|(go_at_call 88;refine CP9.o.mono ?_;rintro e SA ⟨rfl,Ny⟩;have KL:=Zh (az.o.below Ny);have kA:SA.heap[w.heap.size]?=some (.cells (Qf ca cc cp cm) 202 (0,0)):=KL.o.st;have zA:=KL.o.z;have bC:=Zh (CN.o _ KL.o.Zj);clear Ny)|(go_at_call 89;refine bC.o.mono ?_;rintro e FX ⟨rfl,oX⟩;have js:=Zh (KL.o.below oX);clear KL kA zA oX;obtain ⟨SA,rfl⟩:∃ W:World,W=FX:=⟨_,rfl⟩;have KL:=js;clear js;have kA:SA.heap[w.heap.size]?=some (.cells (Qf ca cc cp cm) 202 (0,0)):=KL.o.st;have zA:=KL.o.z))
    have v0:SA.cell? ⟨V,0,none⟩=some (.pointer (some ⟨k,0,none⟩)):=Zc (Bw.o _ KL.o.Zj) 0 rfl
    have b2:SA.cell? ⟨k,2,none⟩=some (.slice (some ⟨g9,o9,none⟩) L.length c9):=Zc (zh.o _ KL.o.Zj) 2 rfl
    have ml:=HLY.o _ KL.o.Zj
    have u1:=cell_of KL.o.st 1
    have f1:=ZO KL.o.st 1
    simp only [XO,SK,S6,SJ] at u1
    go_upto_region 13 with fail
    have js:Hid (NX w (SA.setCell ⟨w,1,none⟩ (.int .i64 ly)) (Qa kd p sr q nm a1 n1 c1 a2 n2 c2) ⟨ca,ly,cp,cm⟩):=KL.o.set 1 (.int .i64 ly) ⟨ca,ly,cp,cm⟩ rfl
    clear KL kA zA v0 b2 ml u1 f1
    generalize SA.setCell ⟨w,1,none⟩ (.int .i64 ly)=FX at *
    have kA:FX.heap[w.heap.size]?=some (.cells (Qf ca ly cp cm) 202 (0,0)):=js.o.st
    have zA:=js.o.z
    go_wp2_with (first|(with_reducible refine Y8 202 (.tmp 4) rfl ?_;refine Y9 rfl 202 (.tmp 4) rfl w.heap.size rfl 202 (Qf ca ly cp cm) (0,0) _ kA Tryz.underlying202 rfl ZB ?_)|(with_reducible refine ZU 202 (.tmp 6) (.tmp 84) rfl ?_;refine ZW rfl 202 (.tmp 6) (.tmp 84) rfl rfl (w.heap.size+1) (Qf ca ly cp cm) rfl rfl 202 (Qf 0 0 false false) zA ZB ZB ZB ?_))
    refine VJ (v:= .agg (Qf ca ly cp cm)) ?_ rfl ?_
    ·exact results_cell_row Zr _ _ (w.heap.size+1) 202 (Qf ca ly cp cm) (0,0) _ Zr (setRow_heap _ _ _ _ _ _ zA) Tryz.underlying202 rfl ZB
    exact ⟨by rw [Vs.o],Z3 js.o.Zj (IP _) _⟩
end
end Go.Proofs.By
