/- Part of a proof. -/
import Derived.Test.YtpdjhlcbcomdkaaGreatDoorF07
set_option linter.unusedVariables false
set_option linter.unusedSimpArgs false
set_option maxRecDepth 100000
set_option maxHeartbeats 16000000
open Go Go.Q Go.Qr
namespace Go.Proofs.By
open Go.RowKit Go.Proofs.Heap
theorem po {base:Nat} {e:TypeId} {size:Nat} {v:Value} {n:Nat} {xs:List Value} {w:World} (h:w.ownsRow base e size v n xs):∀ k,v.ownBlock=some k→k<w.heap.size:=by
 intro k hk
 obtain ⟨_,h⟩:=h
 rcases h with ⟨rfl,_⟩|⟨g,cap,cur,rfl,hg,hh,_⟩
 ·cases hk
 ·have hk:some g=some k:=hk
  cases hk
  exact xJ hh
theorem Eu (v:Value) (b:List UInt8) (w:World) (hv:Yn w v b) (h0:(right b).2=0) :
  Calls Tryz.prog 170 #[v] w fun e w'=>(∃ a,e = .returned (.tuple #[a,.int .i64 (Yc b).1.2,.int .i64 (Yc b).2])∧TN w' a (Yc b).1.1)∧Below w w w':=by
 have HX:Hid (Yc b=((report b,(right b).1),0)):=by show _=_;unfold Yc;rw [Z6 (by simp [h0])]
 have C:=fun w1 h=>F3 v b w1 (hv.below (h:Below w w w1))
 have HC:=Zh C
 have HV:Hid (∀ w',Below w w w'→Yn w' v b):=fun w' h=>hv.below h
 have hb4':=(IJ h0).1
 obtain ⟨g,off,c,rfl,TH,vF,XS⟩:=SC hv Zo
 clear C hv
 obtain ⟨TE,hk,h15,-,hlen⟩:=IJ h0
 generalize Yc b=X at *
 generalize right b=Y at *
 obtain ⟨Y1,Y2⟩:=Y
 obtain rfl:Y2=0:=h0
 go_enter Tryz.func170,Tryz.ntmps170
 go_wp2_with fail
 refine (HC.o _ (Z' _ _)).mono ?_
 rintro e w2 ⟨rfl,Y0⟩
 clear HC
 have y2:=Y0.block w.heap.size DI
 rw [Z5] at y2
 have SG:w.heap.size+1≤w2.heap.size:=by have h:=Y0.size;have h:(w.heap.push _).size≤w2.heap.size:=h;rw [Rg] at h;exact h
 have Y2H:=Zh y2
 clear y2
 go_wp2_with fail
 have Ut:Below w w w2:=(Z' w _).trans (Y0.mono aq)
 have fY:Hid (Uu (w2.alloc (.cells (Q4 (some ⟨g,off,none⟩) b.length c 4) 264)).drew w2.heap.size (.slice (some ⟨g,off,none⟩) b.length c) 4):=Z5 _ _
 have HRB3:Hid (RB w (w2.alloc (.cells (Q4 (some ⟨g,off,none⟩) b.length c 4) 264)).drew w2.heap.size (.slice (some ⟨g,off,none⟩) b.length c) 4 Yz1):=
  ⟨(Ut.trans ((Z' w2 _).mono Ut.size)).drew,by show (w2.alloc _).heap[w.heap.size]?=_;rw [(Z' w2 _).block w.heap.size Zo];exact Y2H.o,fY.o,Zo⟩
 have ZC:Hid (∀ w',Below w w w'→w'.cell? ⟨g,off+1,none⟩=some (.int .u8 (at8 b 1:Int))∧Below w w w'):=fun w' h=>by
  obtain ⟨_,_,_,e,_,_,hc⟩:=SC (HV.o w' h) Zo
  cases e
  exact ⟨hc 1 Zo,h⟩
 have eZ:(1:Int)<(b.length:Int):=by omega
 have bY:1<b.length:=by omega
 have Tm:=XM b 1
 have hg4:get b 4 4<4294967296:=VI b 4 4 4 Zd
 have HW:=Zh (KI w2.heap.size _ b 4 _ fY.o (HV.o _ (Ut.trans ((Z' w2 _).mono Ut.size)).drew) Zo)
 have hzz:w.heap.size<w2.heap.size:=by omega
 clear Y0
 have HK:=Zh hk
 have Dw:=Zh hlen
 have H15:=Zh h15
 have uL:Hid (report b=⟨(at8 b 1:Int),get b 4 4,if at8 b 1=200 then (get b 8 8:Int) else 0,if at8 b 1=200 then (get b 16 4:Int) else 0,if at8 b 1=200 then (get b 20 4:Int) else 0,if at8 b 1=200 then (get b 24 4:Int) else 0,(List.range (at8 b 0 % 32)).map fun (i:Nat)=>OX b ((if at8 b 1=200 then 28 else 8)+24*i),[],0,[]⟩):=rfl
 clear hk hlen hb4' h15 TH vF
 generalize at8 b 1=kd at *
 have hkw:IntKind.i64.wrap (kd:Int)=(kd:Int):=Ua _ Zo
 refine QN ?_
 refine wp_region_held_drew (S:=(fun w'=>w'.cell? ⟨g,off+1,none⟩=some (.int .u8 (kd:Int))∧Below w w w')) Zg ?_ (fun XX=>?_)
 ·(try dsimp only)
  exact ZC.o _ (Ut.trans ((Z' w2 _).mono Ut.size)).drew
 refine YA 0 (h:=YA 1 (h:=YA 2 (h:=YA 3 (h:=YA 4 (h:=?_)))))
 refine wpAnyH_ready (rs:=[5]) Zg Zi ?_
 refine AllReadyH.cons (i:=5) rfl (fun K hK=>?_) ?_
 ·go_simp
  (refine HW.o.mono ?_;rintro e w4 ⟨rfl,he4,cz⟩;have mV:=Zh (HRB3.o.move he4 cz);have TE:Below w w w4:=mV.o.YI)
  go_wp2_with fail
  refine hK.out _ _ ?_ (fun Wo=>?_)
  ·(try dsimp only)
   exact ZC.o _ TE
  clear hK K
  try simp only [Z3.pt]
  refine YA 6 (h:=?_)
  refine TR 7 (h:=fun K hK=>?_)
  refine RO Zr 173 (.tmp 2) (.tmp 25) Zr Zr w.heap.size (Qc (kd:Int) (get b 4 4:Nat) 0 0 0 0 none 0 0 none 0 0 0 none 0 0) Zr Zr 173 _ mV.o.Y8 Zg Zg Zg ?_
  have DB:=Zh (mV.o.row (Qc (kd:Int) (get b 4 4:Nat) 0 0 0 0 none 0 0 none 0 0 0 none 0 0))
  refine hK.out _ _ (ZC.o _ DB.o.YI) (fun _=>?_)
  clear hK K
  try simp only [Z3.pt]
  refine wpAnyH_done Zg ?_ _
  refine Py ?_
  have hbe:=DB.o.YI
  have z0:(w4.setRow w.heap.size (Qc (kd:Int) (get b 4 4:Nat) 0 0 0 0 none 0 0 none 0 0 0 none 0 0)).cell? ⟨w,0,none⟩=some (.int .i64 (kd:Int)):=DB.o.cell 0
  have HRB:Hid (RB w (w4.setRow w.heap.size (Qc (kd:Int) (get b 4 4:Nat) 0 0 0 0 none 0 0 none 0 0 0 none 0 0)) w2.heap.size (.slice (some ⟨g,off,none⟩) b.length c) 8 (Qc (kd:Int) (get b 4 4:Nat) 0 0 0 0 none 0 0 none 0 0 0 none 0 0)):=DB.o
  clear HRB3 mV DB HW fY TE he4 cz XX Wo ZC eZ bY Y2H Ut hkw
  generalize w4.setRow w.heap.size (Qc (kd:Int) (get b 4 4:Nat) 0 0 0 0 none 0 0 none 0 0 0 none 0 0)=w5 at *
  clear SG
  clear w4
  generalize w2.heap.size=k at *
  clear w2
  obtain ⟨P0,Dz⟩:∃ P0:Nat,Hid (P0=if kd=200 then 28 else 8):=⟨_,rfl⟩
  obtain ⟨N2,kA⟩:∃ x:Int,Hid (x=if kd=200 then (get b 8 8:Int) else 0):=⟨_,rfl⟩
  obtain ⟨N3,qj⟩:∃ x:Int,Hid (x=if kd=200 then (get b 16 4:Int) else 0):=⟨_,rfl⟩
  obtain ⟨N4,eA⟩:∃ x:Int,Hid (x=if kd=200 then (get b 20 4:Int) else 0):=⟨_,rfl⟩
  obtain ⟨N5,eB⟩:∃ x:Int,Hid (x=if kd=200 then (get b 24 4:Int) else 0):=⟨_,rfl⟩
  go_upto_if 28 with fail
  go_cut [] (fun wx=>RB w wx k (.slice (some ⟨g,off,none⟩) b.length c) P0 (Qc (kd:Int) (get b 4 4:Nat) N2 N3 N4 N5 none 0 0 none 0 0 0 none 0 0))
  case first=>
   by_cases JM:kd=200
   ·have bk:((kd:Int) == 200)=true:=by rw [beq_iff_eq];omega
    have CG:Hid (Calls Tryz.prog 181 (Ql (some ⟨k,0,none⟩) 8) w5 fun e w'=>e = .returned (.int .u64 (get b 8 8:Nat))∧RB w w' k (.slice (some ⟨g,off,none⟩) b.length c) 16 (Qc (kd:Int) (get b 4 4:Nat) 0 0 0 0 none 0 0 none 0 0 0 none 0 0)∧Fr w5 (· = k) w5 w'):=HRB.o.get HV.o Zo 8 Zo
    have hP:P0=28:=by rw [Dz.o,ZX JM]
    have h2:N2=(get b 8 8:Int):=by rw [kA.o,ZX JM]
    have h3:N3=(get b 16 4:Int):=by rw [qj.o,ZX JM]
    have h4:N4=(get b 20 4:Int):=by rw [eA.o,ZX JM]
    have h5:N5=(get b 24 4:Int):=by rw [eB.o,ZX JM]
    subst hP h2 h3 h4 h5
    clear Dz kA qj eA eB JM
    go_wp2_with fail
    refine CG.o.mono ?_
    rintro e w6 ⟨rfl,di,-⟩
    have CW6:Hid (Calls Tryz.prog 180 #[.pointer (some ⟨k,0,none⟩)] w6 fun e w'=>e = .returned (.int .u32 (get b 16 4:Nat))∧RB w w' k (.slice (some ⟨g,off,none⟩) b.length c) 20 (Qc (kd:Int) (get b 4 4:Nat) 0 0 0 0 none 0 0 none 0 0 0 none 0 0)∧Fr w6 (· = k) w6 w'):=di.word HV.o Zo
    clear di
    go_wp2_with fail
    refine CW6.o.mono ?_
    rintro e w7 ⟨rfl,dn,-⟩
    have CW7:Hid (Calls Tryz.prog 180 #[.pointer (some ⟨k,0,none⟩)] w7 fun e w'=>e = .returned (.int .u32 (get b 20 4:Nat))∧RB w w' k (.slice (some ⟨g,off,none⟩) b.length c) 24 (Qc (kd:Int) (get b 4 4:Nat) 0 0 0 0 none 0 0 none 0 0 0 none 0 0)∧Fr w7 (· = k) w7 w'):=dn.word HV.o Zo
    clear dn
    go_wp2_with fail
    refine CW7.o.mono ?_
    rintro e w8 ⟨rfl,dt,-⟩
    have CW8:Hid (Calls Tryz.prog 180 #[.pointer (some ⟨k,0,none⟩)] w8 fun e w'=>e = .returned (.int .u32 (get b 24 4:Nat))∧RB w w' k (.slice (some ⟨g,off,none⟩) b.length c) 28 (Qc (kd:Int) (get b 4 4:Nat) 0 0 0 0 none 0 0 none 0 0 0 none 0 0)∧Fr w8 (· = k) w8 w'):=dt.word HV.o Zo
    clear dt
    go_wp2_with fail
    refine CW8.o.mono ?_
    rintro e w9 ⟨rfl,GK,-⟩
    have z2:w9.cell? ⟨w,2,none⟩=some (.int .u64 0):=GK.cell 2
    have z3:w9.cell? ⟨w,3,none⟩=some (.int .u32 0):=GK.cell 3
    have z4:w9.cell? ⟨w,4,none⟩=some (.int .u32 0):=GK.cell 4
    have z5:w9.cell? ⟨w,5,none⟩=some (.int .u32 0):=GK.cell 5
    have f2:=GK.frozen 2
    have f3:=GK.frozen 3
    have f4:=GK.frozen 4
    have f5:=GK.frozen 5
    have HF:=Zh ((((GK.set 2 (.int .u64 (get b 8 8:Nat))).set 3 (.int .u32 (get b 16 4:Nat))).set 4 (.int .u32 (get b 20 4:Nat))).set 5 (.int .u32 (get b 24 4:Nat)))
    clear GK
    go_wp2_with fail
    go_meet
    exact HF.o
   ·have bk:((kd:Int) == 200)=false:=by rw [WT];omega
    have hP:P0=8:=by rw [Dz.o,Z6 JM]
    have h2:N2=0:=by rw [kA.o,Z6 JM]
    have h3:N3=0:=by rw [qj.o,Z6 JM]
    have h4:N4=0:=by rw [eA.o,Z6 JM]
    have h5:N5=0:=by rw [eB.o,Z6 JM]
    subst hP h2 h3 h4 h5
    clear Dz kA qj eA eB JM
    go_wp2_with fail
    go_meet
    exact HRB.o
  case rest=>
   obtain ⟨W5,rfl⟩:∃ W:World,W=wc:=⟨_,rfl⟩
   obtain ⟨_,_,_,e1,_,_,GC⟩:=SC (HV.o _ hcut.YI) Zo
   cases e1
   have d0:W5.cell? ⟨g,off,none⟩=some (.int .u8 (at8 b 0:Int)):=GC 0 Zo
   have ha:=DT (at8 b 0) (XM b 0)
   have hm15:=H15.o
   have hP28:P0≤28:=by rw [Dz.o];split <;> omega
   have hRP:report b=⟨(kd:Int),get b 4 4,N2,N3,N4,N5,(List.range (at8 b 0 % 32)).map fun (i:Nat)=>OX b (P0+24*i),[],0,[]⟩:=by rw [uL.o,Dz.o,kA.o,qj.o,eA.o,eB.o]
   have HRP2:=Zh hRP
   have HCUT:=Zh hcut
   clear GC hcut uL Dz kA qj eA eB HRB z0 hbe hRP HK H15 Dw XS
   generalize at8 b 0 % 32=m at *
   obtain ⟨BL,hBL⟩:∃ BL:List uB,BL=(List.range m).map fun (i:Nat)=>OX b (P0+24*i):=⟨_,rfl⟩
   have fR:Hid (BL.length=m):=by show _=_;rw [hBL];simp
   have HBLs:Hid (∀ j,j<m→BL.take (j+1)=BL.take j++[OX b (P0+24*j)]):=fun j hj=>by
    rw [List.take_succ_eq_append_getElem (by rw [fR.o];exact hj)]
    simp [hBL]
   rw [←hBL] at HRP2
   clear hBL
   have HR0:Hid (RL w W5 k (.slice (some ⟨g,off,none⟩) b.length c) P0 (Qc (kd:Int) (get b 4 4:Nat) N2 N3 N4 N5 none 0 0 none 0 0 0 none 0 0) (.slice none 0 0) 0 []):=⟨HCUT.o,Us _ _ _ _⟩
   clear HCUT
   go_upto_region 9 with fail
   go_loopw [45] (fun i w'=>∃ (j:Nat) (bv:Value),j≤m∧i = .int .u8 (j:Int)∧RL w w' k (.slice (some ⟨g,off,none⟩) b.length c) (P0+24*j) (Ja (kd:Int) (get b 4 4:Nat) N2 N3 N4 N5 bv none 0 0 0 none 0 0) bv j ((BL.take j).flatMap XC)) (fun i _=>m-(intOf i).toNat)
   case atStart=>exact ⟨0,_,TS _,rfl,HR0.o⟩
   case round=>
    clear HR0
    obtain ⟨j,bv0,hj,rfl,dv⟩:=hrel
    obtain ⟨Ar,Au,hbv0,-,-⟩:=Row.ZV dv.own
    subst hbv0
    have ui:=Zh dv
    clear dv
    by_cases Bu:j<m
    ·have Wy:=Zh (HBLs.o j Bu)
     obtain ⟨p,hp⟩:∃ p,p=P0+24*j:=⟨_,rfl⟩
     have Fx:p≤1000:=by omega
     rw [←hp] at Wy ui
     obtain ⟨cs,SK⟩:∃ cs:List Value,cs=(Ja (kd:Int) (get b 4 4:Nat) N2 N3 N4 N5 (.slice Ar j Au) none 0 0 0 none 0 0):=⟨_,rfl⟩
     obtain ⟨xs,Jw⟩:∃ xs:List Value,xs=(BL.take j).flatMap XC:=⟨_,rfl⟩
     rw [←SK,←Jw] at ui
     have fW:=Zh SK
     have HXSE:=Zh Jw
     clear SK Jw
     have HPN:Hid (P0+24*(j+1)=p+24):=by show _=_;rw [hp];omega
     clear hp
     have kp:Hid (XC (OX b p)=(Qq (get b (p:Nat) 4:Nat) (get b (p+4:Nat) 1:Nat) (get b (p+5:Nat) 3:Nat) (get b (p+8:Nat) 4:Nat) (get b (p+12:Nat) 4:Nat) (get b (p+16:Nat) 4:Nat) (get b (p+20:Nat) 4:Nat))):=rfl
     have CS:=fun q (hq:q≤2000) w1 bv xs j cs (h:RL w w1 k (.slice (some ⟨g,off,none⟩) b.length c) q cs bv j xs)=>h.word (b:=b) HV.o Zo
     have CG:=fun q (hq:q≤2000) w1 bv xs j cs (h:RL w w1 k (.slice (some ⟨g,off,none⟩) b.length c) q cs bv j xs) r hr=>h.get (b:=b) HV.o Zo r hr
     have fV:=Zh CS
     have ub:=Zh CG
     clear CS CG
     have x0b:get b (p:Nat) 4<4294967296:=VI b _ 4 4 Zd
     have x1b:get b (p+4:Nat) 1<256:=VI b _ 1 1 Zd
     have x2b:get b (p+5:Nat) 3<4294967296:=Px (VI b _ 3 3 Zd) Zd
     generalize h0:get b (p:Nat) 4=x0 at *
     generalize h1:get b (p+4:Nat) 1=x1 at *
     generalize h2:get b (p+5:Nat) 3=x2 at *
     generalize h3:get b (p+8:Nat) 4=x3 at *
     generalize h4:get b (p+12:Nat) 4=x4 at *
     generalize h5:get b (p+16:Nat) 4=x5 at *
     generalize h6:get b (p+20:Nat) 4=x6 at *
     have HG0:=Zh h0
     have Pt:=Zh h1
     have Li:=Zh h2
     have HG3:=Zh h3
     have HG4:=Zh h4
     have mM:=Zh h5
     have yr:=Zh h6
     clear h0 h1 h2 h3 h4 h5 h6
     have C1:Hid (Calls Tryz.prog 180 #[.pointer (some ⟨k,0,none⟩)] wr fun e w'=>e = .returned (.int .u32 (x0:Nat))∧RL w w' k (.slice (some ⟨g,off,none⟩) b.length c) (p+4) cs (.slice Ar j Au) j xs∧Fr wr (· = k) wr w'):=by have:=fV.o p Zo _ _ _ _ _ ui.o;rw [HG0.o] at this;exact this
     go_wp2_with fail
     refine C1.o.mono ?_
     rintro e v1 ⟨rfl,jB,-⟩
     have MC:=Zh jB
     clear jB C1
     have C2:Hid (Calls Tryz.prog 181 (Ql (some ⟨k,0,none⟩) 1) v1 fun e w'=>e = .returned (.int .u64 (x1:Nat))∧RL w w' k (.slice (some ⟨g,off,none⟩) b.length c) (p+5) cs (.slice Ar j Au) j xs∧Fr v1 (· = k) v1 w'):=by have:=ub.o (p+4) Zo _ _ _ _ _ MC.o 1 Zo;rw [←Pt.o];exact this
     go_wp2_with fail
     refine C2.o.mono ?_
     rintro e v2 ⟨rfl,Lf,-⟩
     have uh:=Zh Lf
     clear Lf C2
     have C3:Hid (Calls Tryz.prog 181 (Ql (some ⟨k,0,none⟩) 3) v2 fun e w'=>e = .returned (.int .u64 (x2:Nat))∧RL w w' k (.slice (some ⟨g,off,none⟩) b.length c) (p+8) cs (.slice Ar j Au) j xs∧Fr v2 (· = k) v2 w'):=by have:=ub.o (p+5) Zo _ _ _ _ _ uh.o 3 Zo;rw [←Li.o];exact this
     go_wp2_with fail
     refine C3.o.mono ?_
     rintro e v3 ⟨rfl,GJ,-⟩
     have yx:=Zh GJ
     clear GJ C3
     have HRA:=Zh (yx.o.below (Z' v3 (.cells (Qq (x0:Nat) (x1:Nat) (x2:Nat) 0 0 0 0) 228)))
     have HBK:Hid ((v3.alloc (.cells (Qq (x0:Nat) (x1:Nat) (x2:Nat) 0 0 0 0) 228)).heap[v3.heap.size]?=some (.cells (Qq (x0:Nat) (x1:Nat) (x2:Nat) 0 0 0 0) 228)):=Z5 _ _
     have lT:k<v3.heap.size:=yx.o.rb.zn
     have hwk:w.heap.size<k:=yx.o.rb.lt
     have HOB:Hid (∀ i,(Value.slice Ar j Au).ownBlock=some i→i≠v3.heap.size):=fun i hi e=>by
      have:=po yx.o.own i hi
      omega
     have C4:Hid (Calls Tryz.prog 180 #[.pointer (some ⟨k,0,none⟩)] (v3.alloc (.cells (Qq (x0:Nat) (x1:Nat) (x2:Nat) 0 0 0 0) 228)) fun e w'=>e = .returned (.int .u32 (x3:Nat))∧RL w w' k (.slice (some ⟨g,off,none⟩) b.length c) (p+12) cs (.slice Ar j Au) j xs∧Fr (v3.alloc (.cells (Qq (x0:Nat) (x1:Nat) (x2:Nat) 0 0 0 0) 228)).heap.size (· = k) (v3.alloc (.cells (Qq (x0:Nat) (x1:Nat) (x2:Nat) 0 0 0 0) 228)) w'):=by have:=fV.o (p+8) Zo _ _ _ _ _ HRA.o;rw [←HG3.o];exact this
     go_wp2_with fail
     refine C4.o.mono ?_
     rintro e v4 ⟨rfl,Bx,cz⟩
     have HK4:=Zh (D7 cz HBK.o lT)
     have HR4:=Zh Bx
     clear Bx cz C4 HBK HRA yx uh MC
     generalize v3.heap.size=q at *
     clear v3
     have C5:Hid (Calls Tryz.prog 180 #[.pointer (some ⟨k,0,none⟩)] v4 fun e w'=>e = .returned (.int .u32 (x4:Nat))∧RL w w' k (.slice (some ⟨g,off,none⟩) b.length c) (p+16) cs (.slice Ar j Au) j xs∧Fr v4 (· = k) v4 w'):=by have:=fV.o (p+12) Zo _ _ _ _ _ HR4.o;rw [←HG4.o];exact this
     go_wp2_with fail
     refine C5.o.mono ?_
     rintro e v5 ⟨rfl,hr5,vA⟩
     have HK5:=Zh (D7 vA HK4.o lT)
     have HR5:=Zh hr5
     clear hr5 vA C5 HR4 HK4
     have C6:Hid (Calls Tryz.prog 180 #[.pointer (some ⟨k,0,none⟩)] v5 fun e w'=>e = .returned (.int .u32 (x5:Nat))∧RL w w' k (.slice (some ⟨g,off,none⟩) b.length c) (p+20) cs (.slice Ar j Au) j xs∧Fr v5 (· = k) v5 w'):=by have:=fV.o (p+16) Zo _ _ _ _ _ HR5.o;rw [←mM.o];exact this
     go_wp2_with fail
     refine C6.o.mono ?_
     rintro e v6 ⟨rfl,hr6,cA⟩
     have HK6:=Zh (D7 cA HK5.o lT)
     have AU:=Zh hr6
     clear hr6 cA C6 HR5 HK5
     have C7:Hid (Calls Tryz.prog 180 #[.pointer (some ⟨k,0,none⟩)] v6 fun e w'=>e = .returned (.int .u32 (x6:Nat))∧RL w w' k (.slice (some ⟨g,off,none⟩) b.length c) (p+24) cs (.slice Ar j Au) j xs∧Fr v6 (· = k) v6 w'):=by have:=fV.o (p+20) Zo _ _ _ _ _ AU.o;rw [←yr.o];exact this
     go_wp2_with fail
     refine C7.o.mono ?_
     rintro e v7 ⟨rfl,oM,oF⟩
     have Fs:=D7 oF HK6.o lT
     have u3:v7.cell? ⟨q,3,none⟩=some (.int .u32 0):=cell_of Fs 3
     have u4:v7.cell? ⟨q,4,none⟩=some (.int .u32 0):=cell_of Fs 4
     have u5:v7.cell? ⟨q,5,none⟩=some (.int .u32 0):=cell_of Fs 5
     have u6:v7.cell? ⟨q,6,none⟩=some (.int .u32 0):=cell_of Fs 6
     have f3:=ZI Fs 3
     have f4:=ZI Fs 4
     have f5:=ZI Fs 5
     have f6:=ZI Fs 6
     have pP:=Jr Fs 3 (.int .u32 (x3:Nat))
     have VD:=Jr pP 4 (.int .u32 (x4:Nat))
     have r7:=Jr VD 5 (.int .u32 (x5:Nat))
     have cO:=Jr r7 6 (.int .u32 (x6:Nat))
     have mU:=Zh ((((oM.other Fs (o:=3) lT HOB.o (.int .u32 (x3:Nat))).other pP (o:=4) lT HOB.o (.int .u32 (x4:Nat))).other VD (o:=5) lT HOB.o (.int .u32 (x5:Nat))).other r7 (o:=6) lT HOB.o (.int .u32 (x6:Nat)))
     have yt:=Zh cO
     clear Fs pP VD r7 cO oM oF C7 AU HK6
     go_upto_region 12 with fail
     clear u3 u4 u5 u6 f3 f4 f5 f6
     generalize (((v7.setCell ⟨q,3,none⟩ (.int .u32 (x3:Nat))).setCell ⟨q,4,none⟩ (.int .u32 (x4:Nat))).setCell ⟨q,5,none⟩ (.int .u32 (x5:Nat))).setCell ⟨q,6,none⟩ (.int .u32 (x6:Nat))=v8 at *
     clear v7
     have c0:v8.cell? ⟨q,0,none⟩=some (.int .u32 (x0:Nat)):=cell_of yt.o 0
     have c1:v8.cell? ⟨q,1,none⟩=some (.int .u8 (x1:Nat)):=cell_of yt.o 1
     have c2:v8.cell? ⟨q,2,none⟩=some (.int .u32 (x2:Nat)):=cell_of yt.o 2
     have c3:v8.cell? ⟨q,3,none⟩=some (.int .u32 (x3:Nat)):=cell_of yt.o 3
     have c4:v8.cell? ⟨q,4,none⟩=some (.int .u32 (x4:Nat)):=cell_of yt.o 4
     have c5:v8.cell? ⟨q,5,none⟩=some (.int .u32 (x5:Nat)):=cell_of yt.o 5
     have c6:v8.cell? ⟨q,6,none⟩=some (.int .u32 (x6:Nat)):=cell_of yt.o 6
     have cb:v8.cell? ⟨w,6,none⟩=some (.slice Ar j Au):=by rw [mU.o.rb.cell 6,fW.o];rfl
     have pP:k<v8.heap.size:=mU.o.rb.zn
     go_wp2_with (at_builtin;refine Za rfl (.tmp 69) (.tmp 71) 170 rfl (k+1) NI (.slice Ar j Au) j _ rfl (mU.o.own.alloc _) _ 1 (Qq (x0:Nat) (x1:Nat) (x2:Nat) (x3:Nat) (x4:Nat) (x5:Nat) (x6:Nat)) rfl (UJ v8 228 1 (Qq (x0:Nat) (x1:Nat) (x2:Nat) (x3:Nat) (x4:Nat) (x5:Nat) (x6:Nat)) Zd) rfl (by intro u hu;simp at hu;rcases hu with rfl|rfl|rfl|rfl|rfl|rfl|rfl <;> rfl) Zo Zo VB (fun v' w5 HO HG=>?_);have DB:=Zh ((mU.o.below (Z' v8 _)).grown HG.o);have f6:=DB.o.frozen 6;have c65:w5.cell? ⟨w,6,none⟩=some (.slice Ar j Au):=(by rw [DB.o.cell 6,fW.o];rfl);obtain ⟨va,vc,sJ,-,-⟩:=Row.ZV HO.o;subst sJ)
     go_roundw
     case rel=>exact ⟨j+1,_,Zo,Zn,by rw [Wy.o,HPN.o,QL,←HXSE.o];refine ⟨by have h:=DB.o.set 6 (.slice va (j+1) vc);rw [fW.o] at h;exact h,VK (by have h:=HO.o;rw [←kp.o] at h;rw [show [OX b p].flatMap XC=XC (OX b p) by simp];exact h) Zo _⟩⟩
     case measure=>simp [intOf];omega
    ·obtain rfl:j=m:=by omega
     have Z7:=Row.ZV ui.o.own
     have y0:=ui.o.rb.Y8
     have z0:=cell_of y0 0
     have z1:=cell_of y0 1
     have z2:=cell_of y0 2
     have z3:=cell_of y0 3
     have z4:=cell_of y0 4
     have z5:=cell_of y0 5
     have z6:=cell_of y0 6
     have z7:=cell_of y0 7
     have z8:=cell_of y0 8
     have z9:=cell_of y0 9
     simp only [R9,R8,RT] at z0 z1 z2 z3 z4 z5 z6 z7 z8 z9
     have Kf:=fun (R:World→Prop) (h:R wr)=>(by rw [setRow_self _ _ _ _ _ y0];exact h:R (wr.setRow w.heap.size (Ja (kd:Int) (get b 4 4:Nat) N2 N3 N4 N5 (.slice Ar j Au) none 0 0 0 none 0 0)))
     have HS:=Zh Kf
     have WS:=Zh Z7
     have Rf:=Zh ui.o.rb.YI
     have HT:Hid (BL.take j=BL):=I8 (by rw [fR.o];exact ZB _)
     clear Kf Z7 ui
     go_wp2_with (with_reducible refine ZY 173 (.tmp 2) (.tmp 75) rfl ?_;go_loud (refine ZW rfl 173 (.tmp 2) (.tmp 75) rfl rfl w.heap.size (Ja (kd:Int) (get b 4 4:Nat) N2 N3 N4 N5 (.slice Ar j Au) none 0 0 0 none 0 0) rfl rfl 173 _ y0 Zg Zg Zg ?_;refine HS.o _ ?_))
     refine VR (v:= .tuple (Qo (Ja (kd:Int) (get b 4 4:Nat) N2 N3 N4 N5 (.slice Ar j Au) none 0 0 0 none 0 0) Y1 0)) (by simp [results,Tryz.results170,go_sem,z0,z1,z2,z3,z4,z5,z6,z7,z8,z9]) rfl ⟨⟨_,by rw [HX.o],?_⟩,Rf.o⟩
     rw [HX.o]
     dsimp only
     rw [HRP2.o]
     refine ⟨.slice Ar j Au,.slice none 0 0,.slice none 0 0,rfl,?_,Row.nil _ _,Row.nil _ _⟩
     have h:=WS.o
     rw [HT.o] at h
     show Row _ _ _ BL.length _
     rw [fR.o]
     exact h
 exact AllReadyH.nil
theorem Vt {P:Program} {fn:Func} {p u v:Tmp} {ty:TypeId} (h:fn.results=#[.cell p ty,.tmp u,.tmp v]) (tmps:Array Value) (w:World) (g:Nat) (t:TypeId) (cs:Array Value) (fr:Nat × Nat) (d:TypeDesc)
  (hp:tmps.getD p undef = .pointer (some ⟨g,0,none⟩)) (hg:w.heap[g]?=some (.cells cs t fr))
  (hu:P.underlying ty=some d) (hd:(match d with | .struct _ | .array _ _=>true|_=>false)=true) (hi:(P.info? ty).map (·.size)=some cs.size) :
  (results fn tmps).run P w = .ok (.tuple #[.agg cs,tmps.getD u undef,tmps.getD v undef]) w:=by
 exact Yt6
theorem GY (v:Value) (b:List UInt8) (w:World) (hv:Yn w v b) :
  Calls Tryz.prog 170 #[v] w fun e w'=>(∃ a,e = .returned (.tuple #[a,.int .i64 (Yc b).1.2,.int .i64 (Yc b).2])∧TN w' a (Yc b).1.1)∧Below w w w':=by
 by_cases h:(right b).2=0
 ·exact Eu v b w hv h
 ·exact GZ v b w hv h
theorem LW {w:World} {v:Value} {i:R6} (h:TN w v i):∃ xa xc ya yc za zc,v = .agg (Jj i xa xc ya yc za zc)∧UY w ⟨i,.slice xa i.blocks.length xc,.slice ya i.gone.length yc,.slice za i.XV.length zc⟩:=by
 obtain ⟨bv,gv,pv,h1,h2,h3,h4⟩:=h.ex
 obtain ⟨xa,xc,rfl⟩:=Row.form h2
 obtain ⟨ya,yc,rfl⟩:=Row.form h3
 obtain ⟨za,zc,rfl⟩:=Row.form h4
 exact ⟨xa,xc,ya,yc,za,zc,h1,⟨h2,h3,h4⟩⟩
theorem Om {w:World} {i:R6} {xa ya za:Option Addr} {xc yc zc:Nat} (h:UY w ⟨i,.slice xa i.blocks.length xc,.slice ya i.gone.length yc,.slice za i.XV.length zc⟩):TN w (.agg (Jj i xa xc ya yc za zc)) i:=⟨_,_,_,rfl,h.b,h.g,h.p⟩
theorem UY.setRow {w:World} {x:Sz} (h:UY w x) {g:Nat} {c:Array Value} {f:Nat × Nat} (hg:w.heap[g]?=some (.cells c 173 f)) (c':Array Value):UY (w.setRow g c') x:=
 ⟨Row.setRow h.b hg Zd c',Row.setRow h.g hg Zd c',Row.setRow h.p hg Zd c'⟩
theorem FD (w:World):UY w ⟨X8,.slice none 0 0,.slice none 0 0,.slice none 0 0⟩:=⟨Row.nil _ _,Row.nil _ _,Row.nil _ _⟩
theorem sM {b:List UInt8} (h:(XR b).2=true) (h2:¬((XR b).1=200∨(XR b).1=201)):(XR b).1=203∨(XR b).1=205∨(XR b).1=206:=by
 unfold XR at h h2 ⊢
 split at h
 ·rename_i h1;rw [ZX h1] at h2 ⊢;omega
 ·rename_i h1
  rw [Z6 h1] at h2 ⊢
  split at h
  ·rename_i h3;rw [ZX h3] at h2 ⊢;omega
  ·cases h
theorem zg {b:List UInt8} {k:Nat} (hk:k=203∨k=205∨k=206) (h:(X3 b k).2=true):(X3 b k).1 % 4=0∧4≤(X3 b k).1∧(k≠203→12≤(X3 b k).1):=by
 unfold X3 at h ⊢
 by_cases h1:k=203
 ·dsimp only at h ⊢
  rw [ZX h1] at h ⊢
  exact ⟨by show (get b 2 2+1)*4 % 4=0;omega,by show 4≤(get b 2 2+1)*4;omega,fun h=>absurd h1 h⟩
 ·dsimp only at h ⊢
  rw [Z6 h1] at h ⊢
  by_cases h2:k=205
  ·rw [ZX h2] at h ⊢
   have h:=(Ui _ _).mp h
   have h3:=of_decide_eq_true h.1
   exact ⟨by show (get b 2 2+1)*4 % 4=0;omega,by show 4≤(get b 2 2+1)*4;omega,fun _=>by show 12≤(get b 2 2+1)*4;omega⟩
  ·rw [Z6 h2] at h ⊢
   have h3:=of_decide_eq_true h
   exact ⟨by show (get b 2 2+1)*4 % 4=0;omega,by show 4≤(get b 2 2+1)*4;omega,fun _=>by show 12≤(get b 2 2+1)*4;omega⟩
theorem vZ (v:Value) (b:List UInt8) (k:Nat) (w:World) (hv:Yn w v b) (hk:k=203∨k=205∨k=206) (h4:b.length % 4=0) (hb:b.length≤1000) (TE:4≤b.length) (Gz:k≠203→12≤b.length) :
  Calls Tryz.prog 172 #[v,.int .i64 (k:Int)] w fun e w'=>(∃ a,e = .returned a∧TN w' a (parts b k))∧Below w w w':=by
 by_cases h:k=203
 ·subst h;exact v_ v b w hv h4 hb TE
 ·exact B0 v b k w hv h4 hb (Gz h) h Zo
theorem sO (v:Value) (b:List UInt8) (w:World) (hv:Yn w v b) (hb:b.length≤512) :
  Calls Tryz.prog 151 #[v] w fun e w'=>(∃ a,e = .returned (.tuple #[a,.int .i64 ((Ze b).1.2:Nat),.int .i64 (Ze b).2])∧TN w' a (Ze b).1.1)∧Below w w w':=by
 have HX:Hid (Ze b=if b.length<4 then ((X8,0),2) else if at8 b 0 / 32≠4 then ((X8,0),1) else if (XR b).2=false then ((X8,0),4) else if (XR b).1=200∨(XR b).1=201 then Yc b else if (X3 b (XR b).1).2=false then ((X8,0),1) else if b.length<(X3 b (XR b).1).1 then ((X8,0),2) else ((parts (b.take (X3 b (XR b).1).1) (XR b).1,(X3 b (XR b).1).1),0)):=rfl
 have HV:Hid (∀ w',Below w w w'→Yn w' v b):=fun w' h=>hv.below h
 have TJ:=Z5 w (.cells Y9 173)
 have Wy:=Zh (Z' w (.cells Y9 173))
 have Vj:Hid (∀ w2 n er,w2.heap[w.heap.size]?=some (.cells Y9 173 (0,0))→Below w w w2→Ze b=((X8,n),er)→(∃ a,Ending.returned (.tuple (Qo Y9 (n:Nat) er)) = .returned (.tuple #[a,.int .i64 ((Ze b).1.2:Nat),.int .i64 (Ze b).2])∧TN (w2.setRow w.heap.size Y9) a (Ze b).1.1)∧Below w w (w2.setRow w.heap.size Y9)):=fun w2 n er h1 h2 h3=>by
  rw [h3]
  exact ⟨⟨_,rfl,Om ((FD w2).setRow h1 _)⟩,Z0 h2 (ZB _) _⟩
 obtain ⟨va,c,rfl,TH,-⟩:=id hv
 have XS:=fun h=>SC hv h
 clear hv
 have ei:=Zh TH
 clear TH
 generalize Ze b=X at *
 by_cases h1:b.length<4
 ·rw [ZX h1] at HX
  clear HV XS
  go_enter Tryz.func151,Tryz.ntmps151
  go_wp2_with (first|(with_reducible refine ZY 173 (.tmp 2) (.tmp 12) rfl ?_;refine ZW rfl 173 (.tmp 2) (.tmp 12) rfl rfl w.heap.size Y9 rfl rfl 173 Y9 TJ Zg Zg Zg ?_))
  refine VR (v:= .tuple (Qo Y9 0 2)) ?_ rfl ?_
  ·exact bu
  exact Vj.o _ 0 2 TJ Wy.o HX.o
 obtain ⟨g,off,cap,e1,_,_,hc⟩:=XS Zo
 cases e1
 have d0:w.cell? ⟨g,off,none⟩=some (.int .u8 (at8 b 0:Int)):=hc 0 Zo
 have l1:decide ((b.length:Int)<4)=false:=WN Zo
 have Fq:g<w.heap.size:=World.block_lt_of_cell? w ⟨g,off,none⟩ d0
 rw [Z6 h1] at HX
 clear hc XS
 by_cases h2:at8 b 0 / 32≠4
 ·have q:(((at8 b 0:Nat):Int) / 32 != 4)=true:=by rw [TF];omega
  rw [ZX h2] at HX
  clear h2
  go_enter Tryz.func151,Tryz.ntmps151
  go_wp2_with (first|(with_reducible refine ZY 173 (.tmp 2) (.tmp 19) rfl ?_;refine ZW rfl 173 (.tmp 2) (.tmp 19) rfl rfl w.heap.size Y9 rfl rfl 173 Y9 TJ Zg Zg Zg ?_))
  refine VR (v:= .tuple (Qo Y9 0 1)) ?_ rfl ?_
  ·exact bu
  exact Vj.o _ 0 1 TJ Wy.o HX.o
 have q2:(((at8 b 0:Nat):Int) / 32 != 4)=false:=by rw [bne_eq_false_iff_eq];omega
 rw [Z6 h2] at HX
 have CK:=Zh (vL _ b (w.alloc (.cells Y9 173)) (HV.o _ Wy.o) Zo)
 have HKO:=Zh (sM (b:=b))
 clear h2
 generalize XR b=K at *
 obtain ⟨k,ok⟩:=K
 dsimp only at HX CK HKO
 cases ok with
 | false=>
  rw [ZX rfl] at HX
  go_enter Tryz.func151,Tryz.ntmps151
  go_wp2_with (first|(go_at_call 169;refine CK.o.mono ?_;rintro e w2 ⟨rfl,Y0⟩;have SG:=(Y0.block w.heap.size (ZQ TJ)).trans TJ;have XA:=Zh (Wy.o.trans (Y0.mono Wy.o.size));clear Y0)|(with_reducible refine ZY 173 (.tmp 2) (.tmp 27) rfl ?_;refine ZW rfl 173 (.tmp 2) (.tmp 27) rfl rfl w.heap.size Y9 rfl rfl 173 Y9 SG Zg Zg Zg ?_))
  refine VR (v:= .tuple (Qo Y9 0 4)) ?_ rfl ?_
  ·exact gY
  exact Vj.o _ 0 4 SG XA.o HX.o
 | true=>
  rw [Z6 Zi] at HX
  by_cases hk:k=200∨k=201
  ·rw [ZX hk] at HX
   have kb:((k:Int) == 200)=true∨(((k:Int) == 200)=false∧((k:Int) == 201)=true):=by
    rcases hk with h|h
    ·left;rw [beq_iff_eq];omega
    ·right;exact ⟨by rw [WT];omega,by rw [beq_iff_eq];omega⟩
   clear hk HKO
   rcases kb with kb|⟨kb,kb2⟩
   ·exact aJ
   ·exact aJ
  ·rw [Z6 hk] at HX
   have hk3:=HKO.o rfl hk
   have kb:((k:Int) == 200)=false:=by rw [WT];omega
   have kb2:((k:Int) == 201)=false:=by rw [WT];omega
   have CL:Hid (∀ w',Below w w w'→Calls Tryz.prog 171 #[(.slice (some ⟨g,off,none⟩) b.length c),.int .i64 (k:Int)] w' fun e w''=>e = .returned (.tuple (Q7 ((X3 b k).1:Nat) (X3 b k).2))∧w'=w''):=fun w' h=>BF _ b k w' (HV.o w' h) Zo
   have HLO:=Zh (zg (b:=b) hk3)
   clear hk HKO
   generalize X3 b k=Y at *
   obtain ⟨n,ok⟩:=Y
   dsimp only at HX CL HLO
   cases ok with
   | false=>
    rw [ZX rfl] at HX
    go_enter Tryz.func151,Tryz.ntmps151
    go_wp2_with (first|(go_at_call 169;refine CK.o.mono ?_;rintro e w2 ⟨rfl,Y0⟩;have SG:=(Y0.block w.heap.size (ZQ TJ)).trans TJ;have XA:=Zh (Wy.o.trans (Y0.mono Wy.o.size));clear Y0)|(go_at_call 171;refine (CL.o _ XA.o).mono ?_;rintro e w3 ⟨rfl,rfl⟩)|(with_reducible refine ZY 173 (.tmp 2) (.tmp 48) rfl ?_;refine ZW rfl 173 (.tmp 2) (.tmp 48) rfl rfl w.heap.size Y9 rfl rfl 173 Y9 SG Zg Zg Zg ?_))
    refine VR (v:= .tuple (Qo Y9 0 1)) ?_ rfl ?_
    ·exact gY
    exact Vj.o _ 0 1 SG XA.o HX.o
   | true=>
    rw [Z6 Zi] at HX
    obtain ⟨n4,n5,n6⟩:=HLO.o rfl
    by_cases pQ:b.length<n
    ·rw [ZX pQ] at HX
     go_enter Tryz.func151,Tryz.ntmps151
     go_wp2_with (first|(go_at_call 169;refine CK.o.mono ?_;rintro e w2 ⟨rfl,Y0⟩;have SG:=(Y0.block w.heap.size (ZQ TJ)).trans TJ;have XA:=Zh (Wy.o.trans (Y0.mono Wy.o.size));clear Y0)|(go_at_call 171;refine (CL.o _ XA.o).mono ?_;rintro e w3 ⟨rfl,rfl⟩)|(with_reducible refine ZY 173 (.tmp 2) (.tmp 54) rfl ?_;refine ZW rfl 173 (.tmp 2) (.tmp 54) rfl rfl w.heap.size Y9 rfl rfl 173 Y9 SG Zg Zg Zg ?_))
     refine VR (v:= .tuple (Qo Y9 0 2)) ?_ rfl ?_
     ·exact gY
     exact Vj.o _ 0 2 SG XA.o HX.o
    ·rw [Z6 pQ] at HX
     obtain ⟨a',U4,-,Z7⟩:=RM (P:=Tryz.prog) Wn (some ⟨g,off,none⟩) b.length c n (by have:=ei.o;omega)
     have jO:(b.take n).length=n:=by rw [TU];omega
     have CPA:Hid (∀ w',Below w w w'→Calls Tryz.prog 172 (Q4 a' n c (k:Int)) w' fun e w''=>(∃ a,e = .returned a∧TN w'' a (parts (b.take n) k))∧Below w' w' w''):=fun w' h=>by
      refine vZ _ (b.take n) k w' ?_ hk3 (by rw [jO];exact n4) (by rw [jO];omega) (by rw [jO];exact n5) (by rw [jO];exact n6)
      have h5:=Z7 w' (Sr b) Zo (by rw [XI,Nat.mul_one]) (HV.o w' h)
      rw [Nat.mul_one,PC] at h5
      show Yf _ _ (b.take n).length _
      rw [jO]
      exact h5
     clear Z7 jO
     generalize parts (b.take n) k=i at *
     go_enter Tryz.func151,Tryz.ntmps151
     go_wp2_with (first|(go_at_call 169;refine CK.o.mono ?_;rintro e w2 ⟨rfl,Y0⟩;have SG:=(Y0.block w.heap.size (ZQ TJ)).trans TJ;have XA:=Zh (Wy.o.trans (Y0.mono Wy.o.size));clear Y0)|(go_at_call 171;refine (CL.o _ XA.o).mono ?_;rintro e w3 ⟨rfl,rfl⟩)|(go_at_call 172;refine (CPA.o _ XA.o).mono ?_;rintro e w4 ⟨⟨a,rfl,hit⟩,TE⟩;obtain ⟨xa,xc,ya,yc,za,zc,ha,Nh⟩:=LW hit;subst ha;have Ap:=Zh Nh;have BD:=(TE.block w.heap.size (ZQ SG)).trans SG;have Ur:=Zh (XA.o.trans (TE.mono XA.o.size));clear hit Nh TE)|(with_reducible refine ZY 173 (.tmp 2) (.tmp 59) rfl ?_;refine ZW rfl 173 (.tmp 2) (.tmp 59) rfl rfl w.heap.size (Jj i xa xc ya yc za zc) rfl rfl 173 Y9 BD Zg Zg Zg ?_))
     refine VR (v:= .tuple (Qo (Jj i xa xc ya yc za zc) (n:Nat) 0)) ?_ rfl ?_
     ·exact Vt (p:=2) (u:=3) (v:=4) Zr _ _ w.heap.size 173 (Jj i xa xc ya yc za zc) (0,0) _ Zr (setRow_heap _ _ _ _ _ _ BD) Tryz.underlying173 rfl Zg
     exact ⟨⟨_,by rw [HX.o],by rw [HX.o];exact Om (Ap.o.setRow BD _)⟩,Z0 Ur.o (ZB _) _⟩
end Go.Proofs.By
