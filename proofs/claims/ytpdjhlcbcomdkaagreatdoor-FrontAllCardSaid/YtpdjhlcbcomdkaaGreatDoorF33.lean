/- Part of a proof. -/
import Derived.Test.YtpdjhlcbcomdkaaGreatDoorF32
set_option linter.unusedVariables false
set_option linter.unusedSimpArgs false
set_option maxRecDepth 100000
set_option maxHeartbeats 16000000
open Go Go.Q Go.Qr
namespace Go.Proofs.By
open Go.RowKit Go.Proofs.Heap Go.Proofs
open Go.Proofs.Rm (ZT ZU Xi Inv WZ Room Uh NW RS xY W9 Zb Zz of below_drewN)
open Go.Proofs.N_ (Xe)
open Go.Proofs.Mem
theorem Ww {P:Program} {fn:Func} {p:Tmp} {ty:TypeId} (h:fn.results=#[.cell p ty]) (tmps:Array Value) (w:World) (g:Nat) (t:TypeId) (cs:Array Value) (fr:Nat × Nat) (d:TypeDesc)
  (hp:tmps.getD p undef = .pointer (some ⟨g,0,none⟩)) (hg:w.heap[g]?=some (.cells cs t fr))
  (hu:P.underlying ty=some d) (hd:(match d with | .struct _ | .array _ _=>true|_=>false)=true) (hi:(P.info? ty).map (·.size)=some cs.size) :
  (results fn tmps).run P w = .ok (.agg cs) w:=by
 exact Yt6
theorem pC {b:List UInt8} (h:(X0 b).2=0):(X0 b).1 ≠ .none:=by
 unfold X0 at h ⊢
 split
 ·rename_i hx;rw [ZX hx] at h;cases h
 rename_i h1
 rw [Z6 h1] at h
 split
 ·rename_i hx;rw [ZX hx] at h;cases h
 rename_i h2
 rw [Z6 h2] at h
 split
 ·rename_i h3
  rw [ZX h3] at h
  split
  ·rename_i hx;rw [ZX hx] at h;exact absurd h hx
  ·exact fun h=>by cases h
 ·rename_i h3
  rw [Z6 h3] at h
  split
  ·rename_i hx;rw [ZX hx] at h;exact absurd h hx
  ·rename_i hx
   rw [Z6 hx] at h
   split
   ·rename_i hy;rw [ZX hy] at h;exact absurd h hy
   ·exact fun h=>by cases h
def UW (k b:Nat) (oa:Option Addr) (n oc:Nat) (av ev lv:Value) (c:UX) (X:(Taken × Room) × Int) (w:World) (e:Ending) (w':World):Prop:=
 e = .returned (.agg (Jo X.1.1.WH))∧w'.heap[k]?=some (.cells (Qu oa n oc av ev lv (c.add X.1.1.WH.kind X.1.1.unknown).bad (c.add X.1.1.WH.kind X.1.1.unknown).YW (c.add X.1.1.WH.kind X.1.1.unknown).unknown (c.add X.1.1.WH.kind X.1.1.unknown).refused 0 0 0 0 (some ⟨b,0,none⟩)) 44 (0,0))∧(∃ T',ZT w' b T'∧Xi T' X.1.2)∧Fr w (fun j=>j=k∨j=b) w w'
section
variable {k b:Nat} {oa:Option Addr} {n oc:Nat} {av ev lv:Value} {c:UX} {X:(Taken × Room) × Int} {w:World}
theorem UW.fin {w8:World} {T':ZU} {t:Taken} {R':Room} {ep' n0 n1 n2 n3:Int} (hX:X=((t,R'),ep')) (hc:c.add t.WH.kind t.unknown=⟨n0,n1,n2,n3⟩) (hk:w8.heap[k]?=some (.cells (Qu oa n oc av ev lv n0 n1 n2 n3 0 0 0 0 (some ⟨b,0,none⟩)) 44 (0,0))) (hr:ZT w8 b T') (hs:Xi T' R') (hf:Fr w (fun j=>j=k∨j=b) w w8) (W_:k<w.heap.size)
  {cs:Array Value} {f:Nat × Nat} (hy:w8.heap[w.heap.size+1]?=some (.cells cs 35 f)):UW k b oa n oc av ev lv c X w (.returned (.agg (Jo t.WH))) (w8.setRow (w.heap.size+1) (Jo t.WH)):=by
 subst hX
 unfold UW
 dsimp only
 rw [hc]
 have je:Fr w8 (· = w.heap.size+1) w8 (w8.setRow (w.heap.size+1) (Jo t.WH)):=We _ _ _
 exact ⟨rfl,(setRow_other _ _ _ _ Zo).trans hk,⟨T',Vg hr je (Wl hy Zd),hs⟩,hf.trans ⟨je.os,je.tape,je.output,je.size,fun j hj hn=>setRow_other _ _ _ _ Zo⟩⟩
end
theorem uY (k b:Nat) (oa:Option Addr) (n oc:Nat) (av ev lv:Value) (c:UX) (T:ZU) (R:Room) (ep:Int) (o:Rm.Op) (sa ba:Option Addr) (sc bl bc:Nat) (bs:List UInt8) (sv:Value) (w:World)
  (PQ:w.heap[k]?=some (.cells (Qu oa n oc av ev lv c.bad c.YW c.unknown c.refused 0 0 0 0 (some ⟨b,0,none⟩)) 44 (0,0))) (hR:ZT w b T) (hs:Xi T R) (hI:Inv R) (hT:Xe w) (Vz:o.name.length<9223372036854775807) (Nu:Yf w (.slice sa o.ZO.length sc) o.ZO.length (Zb o.ZO)) (h0:0≤ep) (h9:ep<1000000000) (hc:c.Below 1000000000) (Dk:o.kind≠1) :
  Calls Tryz.prog 42 (Q3 (some ⟨k,0,none⟩) (Ji o sa o.ZO.length sc ba bl bc) ep) w (UW k b oa n oc av ev lv c (take R ep o bs sv) w):=by
 have hX:take R ep o bs sv=if (W9 R o sv).2≠0 then ((Yt 6 (W9 R o sv).2,R),ep) else ((U7 (ep+1) [] (W9 R o sv).1.1 0,(W9 R o sv).1.2),ep+1):=by unfold take;rw [Z6 Dk]
 have HX:=Zh hX
 have HDE:=Zh (fun (h:(W9 R o sv).2≠0)=>xk h)
 have W_:=ZQ PQ
 have XS:=hR.lt
 have ur:k≠b:=fun e=>by
  obtain ⟨_,_,_,h,_⟩:=hR.Wh
  rw [←e,PQ] at h
  injection h with h
  injection h with _ h
  exact absurd h Zd
 obtain ⟨⟨-,hc0⟩,⟨-,GC⟩,⟨-,Mx⟩,⟨hr0,pN⟩⟩:=hc
 obtain ⟨kd,p,s,q,nm,ss⟩:=o
 dsimp only at Vz Nu Dk ⊢
 have e1:(kd != 1)=true:=by rw [TF];exact Dk
 obtain ⟨y0,y1,Vr⟩:=Wm w (Qa kd p s q (str nm) sa ss.length sc ba bl bc) (Qe 0 0 0 0) 32 35
 have OH:Hid (Below w w ((w.alloc (.cells (Qa kd p s q (str nm) sa ss.length sc ba bl bc) 32)).alloc (.cells (Qe 0 0 0 0) 35))):=ZA (Z' w _) (ZB _) _
 have CD:=Zh (xY b T R ⟨kd,p,s,q,nm,ss⟩ sv sa ba sc bl bc ((w.alloc (.cells (Qa kd p s q (str nm) sa ss.length sc ba bl bc) 32)).alloc (.cells (Qe 0 0 0 0) 35)).drew (hR.below OH.o.drew) hs hI (Utf8Tabs_below hT OH.o.drew) Vz (Nu.below OH.o.drew))
 generalize take R ep ⟨kd,p,s,q,nm,ss⟩ bs sv=X at *
 generalize W9 R ⟨kd,p,s,q,nm,ss⟩ sv=D at *
 obtain ⟨⟨D1,D2⟩,er⟩:=D
 dsimp only at CD HX HDE
 clear hX Nu hT hR hI
 go_enter Tryz.func42,Tryz.ntmps42
 go_upto_region 2 with fail
 have GM:=Zh y1
 have lW:=(OH.o.block _ W_).trans PQ
 have HK:=Zh lW
 have HY:=Zh y0
 have Mw:=Zh y1
 have I5:=OH
 have hszX:=Vr
 clear y0 y1 lW
 generalize ((w.alloc (.cells (Qa kd p s q (str nm) sa ss.length sc ba bl bc) 32)).alloc (.cells (Qe 0 0 0 0) 35))=w1 at *
 have ZC:Hid (∀ w',Below w1 w1 w'→w'.cell? ⟨k,12,none⟩=some (.pointer (some ⟨b,0,none⟩))∧w'.heap[w.heap.size]?=some (.cells (Qa kd p s q (str nm) sa ss.length sc ba bl bc) 32 (0,0))):=fun w' h=>
  ⟨by rw [cell_of ((h.block _ (ZQ HK.o)).trans HK.o) 12];rfl,(h.block _ (ZQ HY.o)).trans HY.o⟩
 clear GM
 refine QN ?_
 refine Z3.Yq (d:=5) (S:=(fun w'=>w'.cell? ⟨k,12,none⟩=some (.pointer (some ⟨b,0,none⟩))∧w'.heap[w.heap.size]?=some (.cells (Qa kd p s q (str nm) sa ss.length sc ba bl bc) 32 (0,0)))) Zk ?_ (fun Yb=>?_)
 ·(try dsimp only)
  exact ZC.o _ (YG _ _).drew
 refine YP 0 (h:=YP 1 (h:=YP 2 (h:=YK 3 (h:=?_))))
 refine Z3.tk 4 ?_ rfl ?_ <| ?_
 rotate_left
 ·intro wS QW;(try dsimp only at QW)
  refine Vp 32 (.tmp 4) ?_ w.heap.size ?_ 32 (Qa kd p s q (str nm) sa ss.length sc ba bl bc) (0,0) _ QW.2 Tryz.underlying32 rfl Zk
  all_goals rfl
 try simp only [Z3.pt]
 refine YR 5 (h:=fun K hK=>?_)
 go_simp
 refine CD.o.mono ?_
 rintro e w2 ⟨⟨tv,rfl,S0⟩,⟨T2,Lf,Nk⟩,G9⟩
 obtain ⟨ta,tc,oU,-⟩:=id S0
 subst oU
 have uh:=Zh Lf
 have uM:=Zh Nk
 have KB:=Zh G9
 clear S0 Lf Nk G9
 go_wp2_with fail
 refine Z3.WO hK _ _ Zk ?_
 clear hK K
 try simp only [Z3.pt]
 refine YP 6 (h:=YP 7 (h:=YP 8 (h:=YP 9 (h:=YP 10 (h:=?_)))))
 refine Z3.Xz Zk ?_ _
 refine Py ?_
 clear ZC CD
 have hsw:w1.heap.size≤w2.heap.size:=Rh (YG w1.heap.size w1).drew.size KB.o.size
 have Dv:Hid (Fr w1 (· = b) w1 w2):=(Fr.Z9 _ (YG w1.heap.size w1).drew).trans (KB.o.mono (YG w1.heap.size w1).drew.size (fun _ _ h=>h))
 have eo:Hid (Fr w (fun j=>j=k∨j=b) w w2):=(Fr.Z9 _ OH.o).trans (Dv.o.mono OH.o.size (fun _ _ h=>Wj h))
 have k2:=(Dv.o.block k (ZQ HK.o) ur).trans HK.o
 have y2:=(Dv.o.block (w.heap.size+1) (ZQ Mw.o) Zo).trans Mw.o
 clear KB Dv HK HY Mw
 by_cases SE:er=0
 rotate_left
 ·have bl:(er != 0)=true:=by rw [TF];exact SE
  have hX:X=((Yt 6 er,R),ep):=by rw [HX.o];exact ZX SE
  have iM:D2=R:=HDE.o SE
  subst iM
  have q7:w2.cell? ⟨k,7,none⟩=some (.int .i64 c.refused):=Zc k2 7 rfl
  have f7:w2.frozen? ⟨k,7,none⟩=false:=ZI k2 7
  have vt:=Zh hX
  have og:=Zh (Vg uh.o (Fr.setAt (Fr.refl w2.heap.size (· = k) w2) 7 (.int .i64 (c.refused+1))) (Wl k2 Zd))
  have rN:=Zh (WA k2 7 (.int .i64 (c.refused+1)))
  have nW:=Zh (eo.o.setCell (p:=⟨k,7,none⟩) (Wj (Wc rfl)) (.int .i64 (c.refused+1)))
  have rR:=Zh ((Hk w2 ⟨k,7,none⟩ (.int .i64 (c.refused+1)) (w.heap.size+1) (by show _≠k;omega)).trans y2)
  clear HX HDE hX k2 y2 eo uh
  go_upto_region 5 with fail
  generalize w2.setCell ⟨k,7,none⟩ (.int .i64 (c.refused+1))=w8 at *
  have y1:=rR.o
  have kb:=rN.o
  clear q7 f7
  go_wp2_with (first|(with_reducible refine ZY 35 (.tmp 6) (.tmp 38) rfl ?_;refine Zs y1 ?_))
  refine VR (v:= .agg (Qe 6 0 0 er)) ?_ rfl ?_
  ·exact Ww (p:=6) Zr _ _ (w.heap.size+1) 35 (Qe 6 0 0 er) (0,0) _ Zr (setRow_heap _ _ _ _ _ _ y1) Tryz.underlying35 rfl Zk
  exact UW.fin (T':=_) vt.o (by simp [UX.add,Yt,Vf]) kb og.o uM.o nW.o W_ y1
 subst SE
 have hX:X=((U7 (ep+1) [] D1 0,D2),ep+1):=by rw [HX.o];exact Z6 (fun h=>h rfl)
 have vt:=Zh hX
 have y1:=y2
 have kb:=k2
 clear HX HDE hX y2 k2
 go_wp2_with (first|(with_reducible refine ZY 35 (.tmp 6) (.tmp 41) rfl ?_;refine Zs y1 ?_))
 refine VR (v:= .agg (Qe 2 0 (ep+1) 0)) ?_ rfl ?_
 ·exact Ww (p:=6) Zr _ _ (w.heap.size+1) 35 (Qe 2 0 (ep+1) 0) (0,0) _ Zr (setRow_heap _ _ _ _ _ _ y1) Tryz.underlying35 rfl Zk
 exact UW.fin (T':=_) vt.o (by simp [UX.add,U7,Vf]) kb uh.o uM.o eo.o W_ y1
theorem Cq {b:List UInt8} {l:List R6} (h:(X0 b).1 = .X6 l):(∀ i∈l,TP i)∧l.length≤8:=by
 have key:l=(Yy b).1:=by
  unfold X0 at h
  split at h
  ·cases h
  split at h
  ·cases h
  split at h
  ·split at h
   ·cases h
   ·injection h with h;exact h.symm
  ·split at h
   ·cases h
   ·split at h <;> cases h
 rw [key];exact S3 b
theorem rE {E:Ev} (h:E ≠ .none):(E.kd=1∧E = .Ye E.pk E.ds)∨(E.kd=2∧E = .X6 E.il):=by
 cases E with
 | none=>exact absurd rfl h
 | Ye p d=>exact Wc ⟨rfl,rfl⟩
 | X6 l=>exact Wj ⟨rfl,rfl⟩
theorem qY (k b:Nat) (oa:Option Addr) (n oc:Nat) (av ev lv:Value) (c:UX) (T:ZU) (R:Room) (ep:Int) (o:Rm.Op) (sa ba:Option Addr) (sl sc bl bc:Nat) (bs:List UInt8) (sv:Value) (w:World)
  (PQ:w.heap[k]?=some (.cells (Qu oa n oc av ev lv c.bad c.YW c.unknown c.refused 0 0 0 0 (some ⟨b,0,none⟩)) 44 (0,0))) (hR:ZT w b T) (hs:Xi T R) (hI:Inv R) (hS:WZ R) (Aw:Yn w (.slice ba bl bc) bs) (h0:0≤ep) (h9:ep<1000000000) (hc:c.Below 1000000000) (Dk:o.kind=1) :
  Calls Tryz.prog 42 (Q3 (some ⟨k,0,none⟩) (Ji o sa sl sc ba bl bc) ep) w (UW k b oa n oc av ev lv c (take R ep o bs sv) w):=by
 have HX:Hid (take R ep o bs sv=if (X0 bs).2≠0 then ((Yt 3 (X0 bs).2,R),ep) else if !Zz R o.peer then ((Yt 4 0,R),ep) else match (X0 bs).1 with
  | .Ye p d=>((VS R ep o.peer p d,R),ep)
  | .X6 l=>((U7 (ep+1) l (ZG o.peer l R).1.1 (ZG o.peer l R).2,(ZG o.peer l R).1.2),ep+1)
  | .none=>((U7 (ep+1) [] [] 0,R),ep+1)):=by show _=_;unfold take;rw [ZX Dk];rfl
 have mX:=Zh (fun (h:(X0 bs).2=0)=>rE (pC h))
 have HSI:=Zh (fun (l:List R6) (h:(X0 bs).1 = .X6 l)=>Cq h)
 have W_:=ZQ PQ
 have XS:=hR.lt
 have ur:k≠b:=fun e=>by
  obtain ⟨_,_,_,h,_⟩:=hR.Wh
  rw [←e,PQ] at h
  injection h with h
  injection h with _ h
  exact absurd h Zd
 obtain ⟨⟨Ri,hc0⟩,⟨y_,GC⟩,⟨hu0,Mx⟩,⟨hr0,pN⟩⟩:=hc
 obtain ⟨kd,p,s,q,nm,ss⟩:=o
 dsimp only at Dk HX ⊢
 subst Dk
 obtain ⟨y0,y1,Vr⟩:=Wm w (Qa 1 p s q (str nm) sa sl sc ba bl bc) (Qe 0 0 0 0) 32 35
 have OH:Hid (Below w w ((w.alloc (.cells (Qa 1 p s q (str nm) sa sl sc ba bl bc) 32)).alloc (.cells (Qe 0 0 0 0) 35))):=ZA (Z' w _) (ZB _) _
 have CS:=Zh (FX _ bs ((w.alloc (.cells (Qa 1 p s q (str nm) sa sl sc ba bl bc) 32)).alloc (.cells (Qe 0 0 0 0) 35)) (Aw.below OH.o))
 have HBLK:=Zh PQ
 have VW:=Zh hR
 have HJ:=Zh (hs.Yx p)
 have OJ:=Zh hs
 have HII:=Zh hI
 have ME:=Zh hS
 generalize take R ep ⟨1,p,s,q,nm,ss⟩ bs sv=X at *
 generalize X0 bs=SB at *
 obtain ⟨E,er⟩:=SB
 dsimp only at CS HX mX HSI
 clear PQ Aw hR hs hI hS
 go_enter Tryz.func42,Tryz.ntmps42
 go_upto_region 8 with (go_at_call 41;refine CS.o.mono ?_;rintro e w2 ⟨⟨a,rfl,Ed⟩,Y0⟩;obtain ⟨cv,xv,pv,iv,rfl,JO⟩:=A0.form Ed;obtain ⟨⟨ca,cc,Di⟩,⟨ea,ec,dL⟩,⟨pa,pc,NR⟩⟩:=Vk.form JO.p;obtain ⟨ia,ic,yV⟩:=YV.form JO.i;dsimp only at Di dL NR yV;subst Di;subst dL;subst NR;subst yV;dsimp only [XD,RH,Uz,List.cons_append,KF];have He:=Zh JO.i;have XA:=Zh Y0;clear Ed JO Y0)
 clear CS
 dsimp only at He
 generalize E.kd=K at *
 generalize E.pk=P at *
 generalize E.ds=d at *
 generalize E.il=IL at *
 have ye:=Z5 w2 (.cells (Jl K P ca cc ea ec pa pc d ia IL.length ic) 84)
 have T_:Hid (Below w w (w2.alloc (.cells (Jl K P ca cc ea ec pa pc d ia IL.length ic) 84))):=ZA (OH.o.trans (XA.o.mono OH.o.size)) (ZB _) _
 have jT:=((XA.o.trans ((Z' w2 (.cells (Jl K P ca cc ea ec pa pc d ia IL.length ic) 84)).mono XA.o.size)).block _ (ZQ y0)).trans y0
 have GM:=((XA.o.trans ((Z' w2 (.cells (Jl K P ca cc ea ec pa pc d ia IL.length ic) 84)).mono XA.o.size)).block _ (ZQ y1)).trans y1
 have qf:=Zh (He.o.below (Z' w2 (.cells (Jl K P ca cc ea ec pa pc d ia IL.length ic) 84)))
 have heb:w.heap.size+2≤w2.heap.size:=by have:=XA.o.size;rw [Vr] at this;exact this
 clear y0 y1 He Vr
 generalize (w2.alloc (.cells (Jl K P ca cc ea ec pa pc d ia IL.length ic) 84))=w3 at *
 generalize w2.heap.size=eb at *
 have kW:=(T_.o.block _ W_).trans HBLK.o
 have lJ:=Zh (VW.o.below T_.o)
 have nX:Hid (Fr w (fun j=>j=k∨j=b) w w3):=Fr.Z9 _ T_.o
 by_cases SE:er=0
 rotate_left
 ·have bl:(er != 0)=true:=by rw [TF];exact SE
  have hX:X=((Yt 3 er,R),ep):=by rw [HX.o];exact ZX SE
  have vt:=Zh hX
  clear HX mX HSI hX XA OH qf ye jT
  go_upto_region 9 with fail
  have q8:w3.cell? ⟨k,4,none⟩=some (.int .i64 c.bad):=Zc kW 4 rfl
  have f8:w3.frozen? ⟨k,4,none⟩=false:=ZI kW 4
  have og:=Zh (Vg lJ.o (Fr.setAt (Fr.refl w3.heap.size (· = k) w3) 4 (.int .i64 (c.bad+1))) (Wl kW Zd))
  have rN:=Zh (WA kW 4 (.int .i64 (c.bad+1)))
  have nW:=Zh (nX.o.setCell (p:=⟨k,4,none⟩) (Wj (Wc rfl)) (.int .i64 (c.bad+1)))
  have rR:=Zh ((Hk w3 ⟨k,4,none⟩ (.int .i64 (c.bad+1)) (w.heap.size+1) (by show _≠k;omega)).trans GM)
  clear kW GM
  go_upto_region 10 with fail
  generalize w3.setCell ⟨k,4,none⟩ (.int .i64 (c.bad+1))=w8 at *
  have y1:=rR.o
  have kb:=rN.o
  clear q8 f8
  go_wp2_with (first|(with_reducible refine ZY 35 (.tmp 6) (.tmp 61) rfl ?_;refine Zs y1 ?_))
  refine VR (v:= .agg (Qe 3 0 0 er)) ?_ rfl ?_
  ·exact Ww (p:=6) Zr _ _ (w.heap.size+1) 35 (Qe 3 0 0 er) (0,0) _ Zr (setRow_heap _ _ _ _ _ _ y1) Tryz.underlying35 rfl Zk
  exact gM
 subst SE
 have ud:=Zh (mX.o rfl)
 rw [Z6 (fun h=>h rfl)] at HX
 have HY0:=Zh jT
 have Mw:=Zh GM
 have eJ:=Zh ye
 have pF:=Zh kW
 have ZC:Hid (∀ w',Below w3 w3 w'→w'.cell? ⟨k,12,none⟩=some (.pointer (some ⟨b,0,none⟩))∧w'.cell? ⟨w,1,none⟩=some (.int .i64 p)∧w'.cell? ⟨eb,5,none⟩=some (.int .u32 P.X5)∧w'.cell? ⟨eb,12,none⟩=some (.int .i64 d.Zu)):=fun w' h=>by
  have a1:=(h.block _ (ZQ pF.o)).trans pF.o
  have a2:=(h.block _ (ZQ HY0.o)).trans HY0.o
  have a3:=(h.block _ (ZQ eJ.o)).trans eJ.o
  exact ⟨Zc a1 12 rfl,Zc a2 1 rfl,Zc a3 5 rfl,Zc a3 12 rfl⟩
 have CP:=Zh (Uh b T p w3.drew (lJ.o.below (YG _ _).drew))
 clear mX OH XA jT GM ye kW
 generalize T.Yx p=tp at *
 go_upto_region 11 with fail
 refine QN ?_
 refine Z3.Yq (d:=6) (S:=(fun w'=>w'.cell? ⟨k,12,none⟩=some (.pointer (some ⟨b,0,none⟩))∧w'.cell? ⟨w,1,none⟩=some (.int .i64 p)∧w'.cell? ⟨eb,5,none⟩=some (.int .u32 P.X5)∧w'.cell? ⟨eb,12,none⟩=some (.int .i64 d.Zu))) Zk ?_ (fun Yb=>?_)
 ·(try dsimp only)
  exact ZC.o _ (YG _ _).drew
 refine YP 0 (h:=YP 1 (h:=YP 2 (h:=YP 4 (h:=YK 3 (h:=YK 5 (h:=?_))))))
 refine YR 6 (h:=fun K hK=>?_)
 go_simp
 refine CP.o.mono ?_
 rintro e w6 ⟨rfl,Fl⟩
 have wR:Hid (Below w3 w3 w6):=(YG w3.heap.size w3).drew.trans Fl
 clear Fl
 go_wp2_with fail
 refine Z3.WO hK _ _ Zk ?_
 clear hK K
 try simp only [Z3.pt]
 refine YP 7 (h:=YP 8 (h:=?_))
 refine Z3.Xz Zk ?_ _
 refine Py ?_
 clear CP
 by_cases hj:0≤tp
 rotate_left
 ·have hjd:decide (tp<0)=true:=Ws Zo
  have cL:Zz R p=false:=by rw [Ls];intro h;exact hj (HJ.o.2 h)
  have hX:X=((Yt 4 0,R),ep):=by rw [HX.o,cL];rfl
  have vt:=Zh hX
  have Fi:=Zh (wR.o)
  have kW:=(Fi.o.block _ (ZQ pF.o)).trans pF.o
  have GM:=(Fi.o.block _ (ZQ Mw.o)).trans Mw.o
  have Bl:=Zh (lJ.o.below Fi.o)
  have D9:Hid (Fr w (fun j=>j=k∨j=b) w w6):=nX.o.trans (Fr.Z9 _ (Fi.o.mono nX.o.size))
  clear HX HJ hX cL ZC qf
  go_upto_region 12 with fail
  have q8:w6.cell? ⟨k,5,none⟩=some (.int .i64 c.YW):=Zc kW 5 rfl
  have f8:w6.frozen? ⟨k,5,none⟩=false:=ZI kW 5
  have og:=Zh (Vg Bl.o (Fr.setAt (Fr.refl w6.heap.size (· = k) w6) 5 (.int .i64 (c.YW+1))) (Wl kW Zd))
  have rN:=Zh (WA kW 5 (.int .i64 (c.YW+1)))
  have nW:=Zh (D9.o.setCell (p:=⟨k,5,none⟩) (Wj (Wc rfl)) (.int .i64 (c.YW+1)))
  have rR:=Zh ((Hk w6 ⟨k,5,none⟩ (.int .i64 (c.YW+1)) (w.heap.size+1) (by show _≠k;omega)).trans GM)
  clear kW GM
  go_upto_region 13 with fail
  generalize w6.setCell ⟨k,5,none⟩ (.int .i64 (c.YW+1))=w8 at *
  have y1:=rR.o
  have kb:=rN.o
  clear q8 f8
  go_wp2_with (first|(with_reducible refine ZY 35 (.tmp 6) (.tmp 80) rfl ?_;refine Zs y1 ?_))
  refine VR (v:= .agg (Qe 4 0 0 0)) ?_ rfl ?_
  ·exact Ww (p:=6) Zr _ _ (w.heap.size+1) 35 (Qe 4 0 0 0) (0,0) _ Zr (setRow_heap _ _ _ _ _ _ y1) Tryz.underlying35 rfl Zk
  exact gM
 have hjd:decide (tp<0)=false:=WN Zo
 have cL:Zz R p=true:=HJ.o.1 hj
 rw [cL] at HX
 rw [Z6 Zi] at HX
 have e6:=(wR.o.block _ (ZQ eJ.o)).trans eJ.o
 have k0:w6.cell? ⟨eb,0,none⟩=some (.int .i64 K):=Zc e6 0 rfl
 clear HJ cL e6
 rcases ud.o with ⟨rfl,hE⟩|⟨rfl,hE⟩
 rotate_left
 ·subst hE
  dsimp only at HX
  have OB:=Zh (HSI.o IL rfl)
  have HID:=Zh (Rz p IL R HII.o ME.o OB.o.1)
  have Fi:=Zh wR.o
  have kW:=(Fi.o.block _ (ZQ pF.o)).trans pF.o
  have GM:=(Fi.o.block _ (ZQ Mw.o)).trans Mw.o
  have Bl:=Zh (lJ.o.below Fi.o)
  have D9:Hid (Fr w (fun j=>j=k∨j=b) w w6):=nX.o.trans (Fr.Z9 _ (Fi.o.mono nX.o.size))
  have y0:=(Fi.o.block _ (ZQ HY0.o)).trans HY0.o
  have ye:=(Fi.o.block _ (ZQ eJ.o)).trans eJ.o
  have mN:=Zh kW
  have ag:=Zh GM
  have af:=Zh y0
  have ah:=Zh ye
  have qg:=Zh (qf.o.below Fi.o)
  have hid1:=HID.o.2.2.2.1
  have hid2:=HID.o.2.2.2.2
  have hid3:=OB.o.2
  have hbe:b≠eb:=by omega
  have QR:Hid (∀ w',Fr w6 (· = b) w6 w'→w'.cell? ⟨k,6,none⟩=some (.int .i64 c.unknown)∧w'.cell? ⟨k,12,none⟩=some (.pointer (some ⟨b,0,none⟩))∧w'.cell? ⟨w,1,none⟩=some (.int .i64 p)∧w'.cell? ⟨eb,16,none⟩=some (.slice ia IL.length ic)):=fun w' h=>by
   have a1:=(h.block _ (ZQ mN.o) ur).trans mN.o
   have a2:=(h.block _ (ZQ af.o) Zo).trans af.o
   have a3:=(h.block _ (ZQ ah.o) (fun e=>hbe e.symm)).trans ah.o
   exact ⟨Zc a1 6 rfl,Zc a1 12 rfl,Zc a2 1 rfl,Zc a3 16 rfl⟩
  have CU:=Zh (CV b T R p _ IL w6.drew (Bl.o.below (YG _ _).drew) OJ.o HII.o ME.o (qg.o.below (YG _ _).drew) OB.o.1 OB.o.2)
  generalize ZG p IL R=ID at *
  obtain ⟨⟨D1,D2⟩,du⟩:=ID
  dsimp only at HX CU hid1 hid2
  clear kW GM y0 ye ZC OB HSI ud qg qf
  go_upto_region 15 with fail
  refine QN ?_
  refine Z3.Yq (d:=18) (S:=(fun w'=>w'.cell? ⟨k,6,none⟩=some (.int .i64 c.unknown)∧w'.cell? ⟨k,12,none⟩=some (.pointer (some ⟨b,0,none⟩))∧w'.cell? ⟨w,1,none⟩=some (.int .i64 p)∧w'.cell? ⟨eb,16,none⟩=some (.slice ia IL.length ic))) Zk ?_ (fun Yb=>?_)
  ·(try dsimp only)
   first|exact QR.o _ (Fr.Z9 _ (YG _ _).drew)|exact QR.o _ pE.o
  refine YP 0 (h:=YP 1 (h:=YP 2 (h:=YP 3 (h:=YP 5 (h:=YP 6 (h:=YP 7 (h:=YP 9 (h:=YP 11 (h:=YQ 4 [] (h:=YQ 8 [] (h:=YQ 10 [] (h:=YQ 12 [] (h:=?_)))))))))))))
  refine YR 13 (h:=fun K hK=>?_)
  go_simp
  refine CU.o.mono ?_
  rintro e w7 ⟨rfl,⟨T7,oM,jG⟩,oF⟩
  have HR7:=Zh oM
  have HS7:=Zh jG
  have pE:Hid (Fr w6 (· = b) w6 w7):=(Fr.Z9 _ (YG w6.heap.size w6).drew).trans (oF.mono (YG w6.heap.size w6).drew.size (fun _ _ h=>h))
  have k7:=(pE.o.block _ (ZQ mN.o) ur).trans mN.o
  have f7:w7.frozen? ⟨k,6,none⟩=false:=ZI k7 6
  have og:=Zh (Vg oM (Fr.setAt (Fr.refl w7.heap.size (· = k) w7) 6 (.int .i64 (c.unknown+du))) (Wl k7 Zd))
  have rN:=Zh (WA k7 6 (.int .i64 (c.unknown+du)))
  have nW:=Zh (Fr.setCell (p:=⟨k,6,none⟩) (D9.o.trans (pE.o.mono D9.o.size (fun _ _ h=>Wj h))) (Wj (Wc rfl)) (.int .i64 (c.unknown+du)))
  have rR:=Zh ((Hk w7 ⟨k,6,none⟩ (.int .i64 (c.unknown+du)) (w.heap.size+1) (by show _≠k;omega)).trans ((pE.o.block _ (ZQ ag.o) Zo).trans ag.o))
  clear oM jG oF k7 CU
  go_wp2_with fail
  refine Z3.Xl hK _ _ ?_ (fun XX=>?_)
  ·(try dsimp only)
   first|exact QR.o _ (Fr.Z9 _ (YG _ _).drew)|exact QR.o _ pE.o
  clear hK K
  try simp only [Z3.pt]
  refine YP 14 (h:=YP 15 (h:=YP 16 (h:=YP 17 (h:=?_))))
  refine YR 18 (h:=fun K hK=>?_)
  go_simp
  refine Z3.WO hK _ _ Zk ?_
  clear hK K
  try simp only [Z3.pt]
  refine Z3.Xz Zk ?_ _
  refine Py ?_
  have hX:X=((U7 (ep+1) IL D1 du,D2),ep+1):=HX.o
  have vt:=Zh hX
  clear HX hX QR
  have y1:=rR.o
  have kb:=rN.o
  go_wp2_with (first|(with_reducible refine ZY 35 (.tmp 6) (.tmp 105) rfl ?_;refine Zs y1 ?_))
  refine VR (v:= .agg (Qe 2 0 (ep+1) 0)) ?_ rfl ?_
  ·exact Ww (p:=6) Zr _ _ (w.heap.size+1) 35 (Qe 2 0 (ep+1) 0) (0,0) _ Zr (setRow_heap _ _ _ _ _ _ y1) Tryz.underlying35 rfl Zk
  exact UW.fin (T':=_) vt.o (by simp [UX.add,U7,Vf]) kb og.o HS7.o nW.o W_ y1
 subst hE
 dsimp only at HX
 have M8:=Zh (FZ OJ.o HII.o p P.X5)
 have gj:Hid (VS R ep p P d=if owned R p P.X5 && decide ((T.of P.X5).2.1=d.Zu) then {Vf with WH:=⟨1,(T.of P.X5).1,ep,0⟩,j6:=P,eT:=d} else Yt 5 0):=by show _=_;rw [OJ.o.of_eq HII.o];rfl
 generalize VS R ep p P d=M at *
 have Fi:=Zh wR.o
 have QR:Hid (∀ w',Below w6 w6 w'→w'.cell? ⟨k,12,none⟩=some (.pointer (some ⟨b,0,none⟩))∧w'.cell? ⟨w,1,none⟩=some (.int .i64 p)∧w'.cell? ⟨eb,5,none⟩=some (.int .u32 P.X5)∧w'.cell? ⟨eb,12,none⟩=some (.int .i64 d.Zu)):=fun w' h=>ZC.o _ (Fi.o.trans (h.mono Fi.o.size))
 have CO:=Zh (NW b T P.X5 w6.drew (lJ.o.below (Fi.o.drew)))
 have COW:=Zh (fun (x:Int) (w':World) (h:Below w6 w6 w')=>RS b T x w' (lJ.o.below (Fi.o.trans (h.mono Fi.o.size))))
 generalize owned R p P.X5=ow at *
 generalize T.of P.X5=O at *
 obtain ⟨O1,O2,O3⟩:=O
 dsimp only at CO M8 gj
 clear ZC qf HSI ud
 go_upto_region 17 with fail
 refine QN ?_
 refine Z3.Yq (d:=7) (S:=(fun w'=>w'.cell? ⟨k,12,none⟩=some (.pointer (some ⟨b,0,none⟩))∧w'.cell? ⟨w,1,none⟩=some (.int .i64 p)∧w'.cell? ⟨eb,5,none⟩=some (.int .u32 P.X5)∧w'.cell? ⟨eb,12,none⟩=some (.int .i64 d.Zu))) Zk ?_ (fun Yb=>?_)
 ·(try dsimp only)
  exact QR.o _ (YG _ _).drew
 refine YP 0 (h:=YP 1 (h:=YP 2 (h:=YP 4 (h:=YP 5 (h:=YK 3 (h:=YK 6 (h:=?_)))))))
 refine YR 7 (h:=fun K hK=>?_)
 go_simp
 refine CO.o.mono ?_
 rintro e w7 ⟨rfl,Fm⟩
 have Dt:Hid (Below w6 w6 w7):=(YG w6.heap.size w6).drew.trans Fm
 clear Fm
 go_wp2_with fail
 refine Z3.WO hK _ _ Zk ?_
 clear hK K
 try simp only [Z3.pt]
 refine YP 8 (h:=YP 9 (h:=YP 10 (h:=YP 11 (h:=YP 12 (h:=YP 13 (h:=YP 14 (h:=?_)))))))
 refine Z3.Xz Zk ?_ _
 refine Py ?_
 clear CO
 have hB7:=Zh (Fi.o.trans (Dt.o.mono Fi.o.size))
 have ez:Hid (X=((M,R),ep)):=HX.o
 clear HX
 go_upto_region 18 with fail
 by_cases pR:O3=true∧O2=d.Zu
 rotate_left
 ·have hM:M=Yt 5 0:=by
   rw [gj.o]
   refine Z6 fun h=>pR ?_
   rw [Ui,NB] at h
   exact ⟨(M8.o.2 h.1).1,h.2⟩
  have hX:X=((Yt 5 0,R),ep):=by rw [ez.o,hM]
  have vt:=Zh hX
  obtain ⟨z12,z1,z5,z4⟩:=QR.o _ Dt.o
  clear ez gj M8 hM hX COW
  have SK:O3=false∨(O3=true∧O2≠d.Zu):=by cases O3 <;> simp at pR ⊢;exact pR
  clear pR
  rcases SK with rfl|⟨rfl,pR⟩
  case' inr=>have Zj:(O2 != d.Zu)=true:=by rw [TF];exact pR
  all_goals
   go_quiet (fail)
   have hB8:=Zh (below_drewN hB7.o nq)
   have kW:=(hB8.o.block _ (ZQ pF.o)).trans pF.o
   have GM:=(hB8.o.block _ (ZQ Mw.o)).trans Mw.o
   have Bl:=Zh (lJ.o.below hB8.o)
   have D9:Hid (Fr w (fun j=>j=k∨j=b) w (w7.drewN nq)):=nX.o.trans (Fr.Z9 _ (hB8.o.mono nX.o.size))
   clear QR z12 z1 z5 z4
   generalize w7.drewN nq=w9 at *
   go_upto_region 19 with fail
   have q8:w9.cell? ⟨k,6,none⟩=some (.int .i64 c.unknown):=Zc kW 6 rfl
   have f8:w9.frozen? ⟨k,6,none⟩=false:=ZI kW 6
   have og:=Zh (Vg Bl.o (Fr.setAt (Fr.refl w9.heap.size (· = k) w9) 6 (.int .i64 (c.unknown+1))) (Wl kW Zd))
   have rN:=Zh (WA kW 6 (.int .i64 (c.unknown+1)))
   have nW:=Zh (D9.o.setCell (p:=⟨k,6,none⟩) (Wj (Wc rfl)) (.int .i64 (c.unknown+1)))
   have rR:=Zh ((Hk w9 ⟨k,6,none⟩ (.int .i64 (c.unknown+1)) (w.heap.size+1) (by show _≠k;omega)).trans GM)
   clear kW GM
   go_upto_region 20 with fail
   generalize w9.setCell ⟨k,6,none⟩ (.int .i64 (c.unknown+1))=w8 at *
   have y1:=rR.o
   have kb:=rN.o
   clear q8 f8
   go_wp2_with (first|(with_reducible refine ZY 35 (.tmp 6) (.tmp 147) rfl ?_;refine Zs y1 ?_))
   refine VR (v:= .agg (Qe 5 0 0 0)) ?_ rfl ?_
   ·exact Ww (p:=6) Zr _ _ (w.heap.size+1) 35 (Qe 5 0 0 0) (0,0) _ Zr (setRow_heap _ _ _ _ _ _ y1) Tryz.underlying35 rfl Zk
   exact UW.fin (T':=_) vt.o (by simp [UX.add,Yt,Vf]) kb og.o OJ.o nW.o W_ y1
 obtain ⟨rfl,pR⟩:=pR
 have Zj:(O2 != d.Zu)=false:=by rw [pR,bne_self_eq_false]
 have CW:=Zh (COW.o O1 w7.drew (Dt.o.trans (YG _ _).drew))
 generalize T.owner O1=tw at *
 clear COW
 refine QN ?_
 refine Z3.Yq (d:=19) (S:=(fun w'=>w'.cell? ⟨k,12,none⟩=some (.pointer (some ⟨b,0,none⟩))∧w'.cell? ⟨w,1,none⟩=some (.int .i64 p)∧w'.cell? ⟨eb,5,none⟩=some (.int .u32 P.X5)∧w'.cell? ⟨eb,12,none⟩=some (.int .i64 d.Zu))) Zk ?_ (fun Yb=>?_)
 ·(try dsimp only)
  first|exact QR.o _ (Dt.o.trans ((YG w7.heap.size w7).drew.mono Dt.o.size))|exact QR.o _ (Dt.o.trans (HBG.o.mono Dt.o.size))
 refine YP 0 (h:=YP 1 (h:=YP 2 (h:=YP 3 (h:=YP 4 (h:=YP 5 (h:=YQ 6 [9,8,7] (h:=YP 7 (h:=YP 8 (h:=YP 9 (h:=YP 10 (h:=YP 11 (h:=YP 12 (h:=YP 14 (h:=YP 16 (h:=YQ 13 [18,15] (h:=YQ 17 [18] (h:=?_)))))))))))))))))
 refine YR 15 (h:=fun K hK=>?_)
 go_simp
 refine CW.o.mono ?_
 rintro e w9 ⟨rfl,eY⟩
 have HBG:Hid (Below w7 w7 w9):=(YG w7.heap.size w7).drew.trans eY
 clear eY
 go_wp2_with fail
 refine Z3.Xl hK _ _ ?_ (fun XX=>?_)
 ·(try dsimp only)
  first|exact QR.o _ (Dt.o.trans ((YG w7.heap.size w7).drew.mono Dt.o.size))|exact QR.o _ (Dt.o.trans (HBG.o.mono Dt.o.size))
 clear hK K
 try simp only [Z3.pt]
 refine YP 18 (h:=?_)
 refine YR 19 (h:=fun K hK=>?_)
 go_simp
 refine Z3.WO hK _ _ Zk ?_
 clear hK K
 try simp only [Z3.pt]
 refine Z3.Xz Zk ?_ _
 refine Py ?_
 have hB9:=Zh (hB7.o.trans (HBG.o.mono hB7.o.size))
 have kW:=(hB9.o.block _ (ZQ pF.o)).trans pF.o
 have GM:=(hB9.o.block _ (ZQ Mw.o)).trans Mw.o
 have Bl:=Zh (lJ.o.below hB9.o)
 have D9:Hid (Fr w (fun j=>j=k∨j=b) w w9):=nX.o.trans (Fr.Z9 _ (hB9.o.mono nX.o.size))
 clear QR CW
 by_cases htw:tw=p
 rotate_left
 ·have Y0:(tw != p)=true:=by rw [TF];exact htw
  have hM:M=Yt 5 0:=by
   rw [gj.o]
   refine Z6 fun h=>htw ?_
   rw [Ui,NB] at h
   exact (M8.o.2 h.1).2
  have hX:X=((Yt 5 0,R),ep):=by rw [ez.o,hM]
  have vt:=Zh hX
  clear ez gj M8 hM hX
  go_upto_region 19 with fail
  have q8:w9.cell? ⟨k,6,none⟩=some (.int .i64 c.unknown):=Zc kW 6 rfl
  have f8:w9.frozen? ⟨k,6,none⟩=false:=ZI kW 6
  have og:=Zh (Vg Bl.o (Fr.setAt (Fr.refl w9.heap.size (· = k) w9) 6 (.int .i64 (c.unknown+1))) (Wl kW Zd))
  have rN:=Zh (WA kW 6 (.int .i64 (c.unknown+1)))
  have nW:=Zh (D9.o.setCell (p:=⟨k,6,none⟩) (Wj (Wc rfl)) (.int .i64 (c.unknown+1)))
  have rR:=Zh ((Hk w9 ⟨k,6,none⟩ (.int .i64 (c.unknown+1)) (w.heap.size+1) (by show _≠k;omega)).trans GM)
  clear kW GM
  go_upto_region 20 with fail
  generalize w9.setCell ⟨k,6,none⟩ (.int .i64 (c.unknown+1))=w8 at *
  have y1:=rR.o
  have kb:=rN.o
  clear q8 f8
  go_wp2_with (first|(with_reducible refine ZY 35 (.tmp 6) (.tmp 147) rfl ?_;refine Zs y1 ?_))
  refine VR (v:= .agg (Qe 5 0 0 0)) ?_ rfl ?_
  ·exact Ww (p:=6) Zr _ _ (w.heap.size+1) 35 (Qe 5 0 0 0) (0,0) _ Zr (setRow_heap _ _ _ _ _ _ y1) Tryz.underlying35 rfl Zk
  exact gM
 have Y0:(tw != p)=false:=by rw [htw,bne_self_eq_false]
 have hX:X=(({Vf with WH:=⟨1,O1,ep,0⟩,j6:=P,eT:=d},R),ep):=by
  rw [ez.o,gj.o,M8.o.1 ⟨by trivial,htw⟩,pR,Ws rfl];rfl
 have vt:=Zh hX
 have y1:=GM
 have kb:=kW
 clear ez gj M8 hX
 go_wp2_with (first|(with_reducible refine ZY 35 (.tmp 6) (.tmp 150) rfl ?_;refine Zs y1 ?_))
 refine VR (v:= .agg (Qe 1 O1 ep 0)) ?_ rfl ?_
 ·exact Ww (p:=6) Zr _ _ (w.heap.size+1) 35 (Qe 1 O1 ep 0) (0,0) _ Zr (setRow_heap _ _ _ _ _ _ y1) Tryz.underlying35 rfl Zk
 exact UW.fin (T':=_) vt.o (by simp [UX.add,Vf]) kb Bl.o OJ.o D9.o W_ y1
end Go.Proofs.By
