/- Part of a proof. -/
import Derived.Test.YtpdjhlcbcomdkaaGreatDoorF10
set_option linter.unusedVariables false
set_option linter.unusedSimpArgs false
set_option maxRecDepth 100000
set_option maxHeartbeats 16000000
open Go Go.Q Go.Qr
namespace Go.Proofs.Rm
open Go.RowKit Go.Proofs.Heap Go.Proofs.Mem
theorem Tp {base bD:Nat} {e e2:TypeId} {size dU:Nat} {v vo:Value} {n m:Nat} {xs ys:List Value} {w w':World} (h:w.ownsRow base e size v n xs) (ho:w.ownsRow bD e2 dU vo m ys) (hg:w.grownBy w' vo.ownBlock) (Xh:e≠e2):w'.ownsRow base e size v n xs:=by
 obtain ⟨h1,h2⟩:=h
 refine ⟨h1,?_⟩
 rcases h2 with h2|⟨g,cap,cur,hv,Br,hh,r⟩
 ·exact Wc h2
 ·have Rj:g<w.heap.size:=by
   exact nu
  refine Wj ⟨g,cap,cur,hv,Br,?_,r⟩
  rw [hg.block g Rj]
  ·exact hh
  ·intro e1
   obtain ⟨_,ho⟩:=ho
   rcases ho with ⟨rfl,_⟩|⟨g2,cap2,cur2,rfl,_,hh2,_⟩
   ·cases e1
   ·have e1:some g=some g2:=e1
    cases e1
    rw [hh] at hh2
    exact VX Xh hh2
theorem Yz {base:Nat} {e:TypeId} {size:Nat} {v:Value} {n:Nat} {xs:List Value} {w:World} (h:w.ownsRow base e size v n xs):∃ a c,v = .slice a n c:=by
 obtain ⟨_,h⟩:=h
 rcases h with ⟨rfl,rfl⟩|⟨g,cap,cur,rfl,_⟩
 ·exact ⟨_,_,rfl⟩
 ·exact ⟨_,_,rfl⟩
theorem Ga (R:Room):∀ k,(Sy R k).length≤k*9
 | 0=>ZB _
 | k+1=>by
  rw [IU,SP]
  have:=Ga R k
  have:=S6 R k
  unfold SJ
  rw [UM]
  omega
theorem kg {w:World} {b:Nat} {u0 u1 u2 v0 v1 v2:Value} (h0:w.cell? ⟨b,0,none⟩=some u0) (h1:w.cell? ⟨b,1,none⟩=some u1) (h2:w.cell? ⟨b,2,none⟩=some u2) :
  (((w.setCell ⟨b,0,none⟩ v0).setCell ⟨b,1,none⟩ v1).setCell ⟨b,2,none⟩ v2).cell? ⟨b,0,none⟩=some v0∧(((w.setCell ⟨b,0,none⟩ v0).setCell ⟨b,1,none⟩ v1).setCell ⟨b,2,none⟩ v2).cell? ⟨b,1,none⟩=some v1∧(((w.setCell ⟨b,0,none⟩ v0).setCell ⟨b,1,none⟩ v1).setCell ⟨b,2,none⟩ v2).cell? ⟨b,2,none⟩=some v2:=by
 have e01:(⟨b,0,none⟩:Addr)≠⟨b,1,none⟩:=by simp
 have e02:(⟨b,0,none⟩:Addr)≠⟨b,2,none⟩:=by simp
 have e12:(⟨b,1,none⟩:Addr)≠⟨b,2,none⟩:=by simp
 refine ⟨?_,?_,?_⟩
 ·rw [World.cell?_setCell_other _ _ _ _ Zi,World.cell?_setCell_other _ _ _ _ Zi,um _ _ _ h0]
 ·rw [World.cell?_setCell_other _ _ _ _ Zi,um (u:=u1)]
  rw [World.cell?_setCell_other _ _ _ _ Zi];exact h1
 ·rw [um (u:=u2)]
  rw [World.cell?_setCell_other _ _ _ _ Zi,World.cell?_setCell_other _ _ _ _ Zi];exact h2
structure TG (w w':World) (pv sv uv:Value) (P:List WU) (ms:List (XK × Value)) (us:List WJ):Prop where
 tb:TB w w' pv sv uv
 pe:w'.ownsRow (w.heap.size+2) 103 2 pv P.length (P.flatMap Zf)
 sr:w'.ownsRow (w.heap.size+2) 108 4 sv ms.length (ms.flatMap ZJ)
 rows:∀ m∈ms,Row w' 66 m.2 m.1.ss.length (Zb m.1.ss)
 su:w'.ownsRow (w.heap.size+2) 105 4 uv us.length (us.flatMap ZL)
section
variable {w w1 w2:World} {pv sv uv:Value} {P:List WU} {ms:List (XK × Value)} {us:List WJ}
theorem TG.below (h:TG w w1 pv sv uv P ms us) (hb:Below w1 w1 w2):TG w w2 pv sv uv P ms us:=
 ⟨h.tb.below hb,ZF h.pe hb,ZF h.sr hb,fun m hm=>(h.rows m hm).below hb,ZF h.su hb⟩
theorem TG.alloc (h:TG w w1 pv sv uv P ms us) (o:Obj):TG w (w1.alloc o) pv sv uv P ms us:=h.below (Z' _ _)
theorem TG.drew (h:TG w w1 pv sv uv P ms us):TG w w1.drew pv sv uv P ms us:=h.below (YG _ _).drew
theorem K9 (h:TB w w1 pv sv uv) {e:TypeId} (he:e≠51):∀ k c fr,k=w.heap.size+1→w1.heap[k]?≠some (.cells c e fr):=by
 intro k c fr hk
 subst hk
 rw [h.Y8]
 exact VX (fun h=>he h.symm)
theorem TG.set (h:TG w w1 pv sv uv P ms us) (j:Nat) (v:Value) {pv' QB Kz:Value} (h0:pv'=if j=0 then v else pv) (h1:QB=if j=1 then v else sv) (h2:Kz=if j=2 then v else uv) {P':List WU} {L4:List (XK × Value)} {us':List WJ}
  (g0:w1.ownsRow (w.heap.size+2) 103 2 pv' P'.length (P'.flatMap Zf)) (g1:w1.ownsRow (w.heap.size+2) 108 4 QB L4.length (L4.flatMap ZJ)) (gr:∀ m∈L4,Row w1 66 m.2 m.1.ss.length (Zb m.1.ss))
  (g2:w1.ownsRow (w.heap.size+2) 105 4 Kz us'.length (us'.flatMap ZL)):TG w (w1.setCell ⟨w.heap.size+1,j,none⟩ v) pv' QB Kz P' L4 us':=by
 have hf:Fr w1 (· = w.heap.size+1) w1 (w1.setCell ⟨w.heap.size+1,j,none⟩ v):=(Fr.refl _ _ _).setAt _ _
 subst h0 h1 h2
 exact ⟨h.tb.set j v,Yj g0 hf (fun k hk=>by omega),Yj g1 hf (fun k hk=>by omega),fun m hm=>(gr m hm).fr hf (ZB _) (K9 h.tb Zd),Yj g2 hf (fun k hk=>by omega)⟩
theorem TG.R_ (h:TG w w1 pv sv uv P ms us) {v:Value} (x:WU) (ho:Hid (w2.ownsRow (w.heap.size+2) 103 2 v (P.length+1) (P.flatMap Zf++Zf x))) (hg:Hid (w1.grownBy w2 pv.ownBlock)) :
  TG w (w2.setCell ⟨w.heap.size+1,0,none⟩ v) v sv uv (P++[x]) ms us:=by
 have h2:TG w w2 pv sv uv [] ms us∨True:=Wj trivial
 have mr:TB w w2 pv sv uv:=h.tb.grown h.pe hg.o
 have hf:Fr w2 (· = w.heap.size+1) w2 (w2.setCell ⟨w.heap.size+1,0,none⟩ v):=(Fr.refl _ _ _).setAt _ _
 refine ⟨mr.set 0 v,?_,Yj (Tp h.sr h.pe hg.o Zd) hf (fun k hk=>by omega),fun m hm=>(Row.grown (h.rows m hm) h.pe hg.o Zd).fr hf (ZB _) (K9 mr Zd),Yj (Tp h.su h.pe hg.o Zd) hf (fun k hk=>by omega)⟩
 have:=Yj ho.o hf (fun k hk=>by omega)
 rw [SP,QL]
 simpa using this
theorem TG.O4 (h:TG w w1 pv sv uv P ms us) {v:Value} (x:XK × Value) (hr:Row w1 66 x.2 x.1.ss.length (Zb x.1.ss)) (ho:Hid (w2.ownsRow (w.heap.size+2) 108 4 v (ms.length+1) (ms.flatMap ZJ++ZJ x))) (hg:Hid (w1.grownBy w2 sv.ownBlock)) :
  TG w (w2.setCell ⟨w.heap.size+1,1,none⟩ v) pv v uv P (ms++[x]) us:=by
 have mr:TB w w2 pv sv uv:=h.tb.grown h.sr hg.o
 have hf:Fr w2 (· = w.heap.size+1) w2 (w2.setCell ⟨w.heap.size+1,1,none⟩ v):=(Fr.refl _ _ _).setAt _ _
 refine ⟨mr.set 1 v,Yj (Tp h.pe h.sr hg.o Zd) hf (fun k hk=>by omega),?_,?_,Yj (Tp h.su h.sr hg.o Zd) hf (fun k hk=>by omega)⟩
 ·have:=Yj ho.o hf (fun k hk=>by omega)
  rw [SP,QL]
  simpa using this
 ·intro m hm
  have hm':Row w1 66 m.2 m.1.ss.length (Zb m.1.ss):=by
   rcases De.1 hm with hm|hm
   ·exact h.rows m hm
   ·rw [I9] at hm;subst hm;exact hr
  exact (Row.grown hm' h.sr hg.o Zd).fr hf (ZB _) (K9 mr Zd)
theorem TG.Wz (h:TG w w1 pv sv uv P ms us) {v:Value} (x:WJ) (ho:Hid (w2.ownsRow (w.heap.size+2) 105 4 v (us.length+1) (us.flatMap ZL++ZL x))) (hg:Hid (w1.grownBy w2 uv.ownBlock)) :
  TG w (w2.setCell ⟨w.heap.size+1,2,none⟩ v) pv sv v P ms (us++[x]):=by
 have mr:TB w w2 pv sv uv:=h.tb.grown h.su hg.o
 have hf:Fr w2 (· = w.heap.size+1) w2 (w2.setCell ⟨w.heap.size+1,2,none⟩ v):=(Fr.refl _ _ _).setAt _ _
 refine ⟨mr.set 2 v,Yj (Tp h.pe h.su hg.o Zd) hf (fun k hk=>by omega),Yj (Tp h.sr h.su hg.o Zd) hf (fun k hk=>by omega),fun m hm=>(Row.grown (h.rows m hm) h.su hg.o Zd).fr hf (ZB _) (K9 mr Zd),?_⟩
 have:=Yj ho.o hf (fun k hk=>by omega)
 rw [SP,QL]
 simpa using this
theorem TG.Fg (h:TG w w1 pv sv uv P ms us) (hg:Hid (w1.grownBy w2 pv.ownBlock)):TB w w2 pv sv uv:=h.tb.grown h.pe hg.o
theorem TG.Fh (h:TG w w1 pv sv uv P ms us) (hg:Hid (w1.grownBy w2 sv.ownBlock)):TB w w2 pv sv uv:=h.tb.grown h.sr hg.o
theorem TG.NN (h:TG w w1 pv sv uv P ms us) (hg:Hid (w1.grownBy w2 uv.ownBlock)):TB w w2 pv sv uv:=h.tb.grown h.su hg.o
end
theorem P8 (x:WU):∀ u∈Zf x,u.oneCell'=true:=by
 intro u hu
 simp only [Zf,KG,List.mem_nil_iff,or_false] at hu
 rcases hu with rfl|rfl <;> rfl
theorem S7 (x:WJ):∀ u∈ZL x,u.oneCell'=true:=by
 intro u hu
 simp only [ZL,KG,List.mem_nil_iff,or_false] at hu
 rcases hu with rfl|rfl|rfl|rfl <;> rfl
theorem QD (x:XK) (a:Option Addr) (n c:Nat):∀ u∈ZJ (x,.slice a n c),u.oneCell'=true:=by
 intro u hu
 simp only [ZJ,KG,List.mem_nil_iff,or_false] at hu
 rcases hu with rfl|rfl|rfl|rfl <;> rfl
theorem E3 (b:Nat) (R:Room) (w:World) (hR:Z4 w b R) (hl:∀ n,(R.src n).ss.length≤1000000) :
  Calls Tryz.prog 47 #[.pointer (some ⟨b,0,none⟩)] w fun e w'=>(∃ pv sv uv,e = .returned (.agg #[pv,sv,uv])∧Sp w' pv sv uv (table R))∧Below w w w':=by
 have hb:=hR.lt
 have HR:Hid (∀ w',Below w w w'→Z4 w' b R):=fun w' h=>hR.below h
 have HLS:Hid (∀ n,(R.src n).ss.length≤1000000):=hl
 clear hR hl
 go_enter Tryz.func47,Tryz.ntmps47
 go_wp2
 go_loopw [12] (fun i w'=>∃ k:Nat,k≤9∧i = .int .i64 k∧∃ pv,TG w w' pv (.slice none 0 0) (.slice none 0 0) (Tw R k) [] []) (fun i _=>9-(intOf i).toNat)
 case atStart=>exact ⟨0,Zo,rfl,_,⟨⟨((YG _ _).alloc (ZB _) _).alloc Zi _,(Wm w _ _).2,(Wm w _ _).1⟩,Us _ _ _ _,Us _ _ _ _,fun m hm=>by simp at hm,Us _ _ _ _⟩⟩
 case round=>
  obtain ⟨k,hk,rfl,pv,MT⟩:=hrel
  have R5:=Zh MT
  have Vr:=MT.tb.size
  have Yg:=Zh (HR.o _ MT.tb.YI)
  clear MT
  by_cases VD:k<9
  ·have HS:=Zh (Cu R k)
   have EW:=zY R k
   have CJ:=Zh (U6 b R k wr Yg.o)
   have cn:=Yg.o.BS VD
   have cp:=R5.o.tb.cells.1
   have fp:=R5.o.tb.frozen 0
   generalize Tw R k=G at *
   cases hj:Zz R k
   ·have HF:Hid (Tw R (k+1)=G):=by show _=_;rw [HS.o,hj];simp
    rw [hj] at CJ
    clear hj
    go_wp2_with (go_at_call 80;refine CJ.o.mono ?_;rintro e w1 ⟨rfl,rfl⟩)
    go_roundw
    case rel=>exact ⟨k+1,Zo,Zn,pv,by rw [HF.o];exact R5.o⟩
    case measure=>simp [intOf];omega
   ·have HF:Hid (Tw R (k+1)=G++[⟨k,R.names k⟩]):=by show _=_;rw [HS.o,hj];simp
    rw [hj] at CJ
    clear hj
    go_wp2_with (go_at_call 80;refine CJ.o.mono ?_;rintro e w1 ⟨rfl,rfl⟩)
    go_region_law (first|(refine Zw Zr (.tmp 19) (.tmp 28) 47 Zr (w.heap.size+2) Vv _ G.length (G.flatMap Zf) Zr ?_ _ 1 (Zf ⟨k,R.names k⟩) Zr ?_ Zr (P8 _) Zo Zo ?_ ?_;(refine TG.pe (sv:= .slice none 0 0) (uv:= .slice none 0 0) (P:=G) (ms:=[]) (us:=[]) ?_;(repeat (first|exact R5.o|refine TG.drew ?_|refine TG.alloc ?_ _)));(repeat (first|exact YL _ _ 1 _ (Zf ⟨k,R.names k⟩) Zd rfl|refine Row.drew ?_));(simp;omega);intro v' w3 HO HG;have IY:=TG.Fg (w:=w) (sv:= .slice none 0 0) (uv:= .slice none 0 0) (P:=G) (ms:=[]) (us:=[]) (by (repeat (first|exact R5.o|refine TG.drew ?_|refine TG.alloc ?_ _))) HG;have c3:=IY.cells.1;have f3:=IY.frozen 0;obtain ⟨va,vc,hv⟩:=Yz HO.o;subst hv))
    all_goals
     go_wp2
     refine ⟨⟨k+1,Zo,Zn,_,by rw [HF.o];exact TG.R_ (w1:=_) (by repeat (first|exact R5.o|refine TG.drew ?_|refine TG.alloc ?_ _)) ⟨k,R.names k⟩ HO HG⟩,by simp [intOf];omega⟩
  ·obtain rfl:k=9:=by omega
   have HTAB:Hid (table R=⟨Tw R 9,QC R 9,Sy R 9⟩):=rfl
   generalize Tw R 9=PP at *
   obtain ⟨wo,rfl⟩:∃ wo:World,wo=wr:=⟨_,rfl⟩
   clear Yg
   go_wp2
   go_loopw [32] (fun i w'=>∃ k:Nat,k≤9∧i = .int .i64 k∧∃ sv uv ms,TG w w' pv sv uv PP ms (Sy R k)∧Hid (ms.map Prod.fst=QC R k)) (fun i _=>9-(intOf i).toNat)
   case atStart=>exact ⟨0,Zo,rfl,_,_,[],R5.o,rfl⟩
   case round=>
    clear R5 Vr
    obtain ⟨k,hk,rfl,sv,uv,ms,MT,I6⟩:=hrel
    have R5:=Zh MT
    have Vr:=MT.tb.size
    have Yg:=Zh (HR.o _ MT.tb.YI)
    clear MT
    by_cases VD:k<9
    ·have JY:=Zh (zZ R k)
     have ey:ms.length≤9:=by have h1:=congrArg List.length I6.o;rw [UM] at h1;have h2:=wI R k;omega
     have ME:=Ga R k
     cases hh:Pb R k
     ·have hh':(WB (k:Int) 9 && (R.src ((k:Int)).toNat).there)=false:=hh
      have CN:=Zh (E2 b R k wr Yg.o hh')
      have HM2:Hid (ms.map Prod.fst=QC R (k+1)):=by show _=_;rw [JY.o,hh,I6.o];simp
      clear hh hh'
      obtain ⟨uA,jJ⟩:∃ uA,uA=sv:=⟨_,rfl⟩
      subst jJ
      obtain ⟨fF,hms2⟩:∃ fF,fF=ms:=⟨_,rfl⟩
      subst hms2
      go_wp2_with fail
      refine CN.o.mono ?_
      rintro e w2 ⟨rfl,Y0⟩
      have qz:=Zh ((R5.o.below Y0).alloc (.cells (Qj 0 0 none 0 0 false) 108))
      clear Y0
      exact Yx9
     ·have fh:WB (k:Int) 9=true∧(R.src k).there=true:=by unfold Pb at hh;rw [Ui] at hh;exact hh
      have Dk:=Jx.1 fh.1
      have CY:=Zh (Hj b R k wr Yg.o ⟨Dk.1,VD⟩ fh.2 (HLS.o k))
      have HSS2:Hid (QC R (k+1)=QC R k++[⟨(R.src k).num,(R.src k).own,(R.src k).ss,(R.src k).ZE⟩]):=by show _=_;rw [JY.o,hh];simp
      clear hh fh Dk JY
      generalize (R.src k).num=u1 at *
      generalize (R.src k).own=u2 at *
      generalize (R.src k).ss=u3 at *
      generalize (R.src k).ZE=u4 at *
      go_wp2_with fail
      refine CY.o.mono ?_
      rintro e w2 ⟨⟨cv,rfl,fe⟩,Y0⟩
      have HCR:=Zh fe
      obtain ⟨ca,cc,rfl,hx⟩:=fe
      clear hx
      have uO:=Zh (R5.o.below Y0)
      have Nk:=uO.o.tb.size
      have cb:=uO.o.tb.cells.2.1
      have fb:=uO.o.tb.frozen 1
      clear Y0
      go_wp2_with (at_builtin;refine Za rfl (.tmp 43) (.tmp 45) 48 rfl (w.heap.size+2) VY _ ms.length (ms.flatMap ZJ) rfl (by exact ((uO.o.alloc _).alloc _).sr) _ 1 (ZJ (⟨u1,u2,u3,u4⟩,.slice ca u3.length cc)) rfl (by exact YL _ _ 1 _ (ZJ (⟨u1,u2,u3,u4⟩,.slice ca u3.length cc)) Zd Zi) rfl (QD _ _ _ _) Zo Zo VB (fun v' w5 HO HG=>?_);have fK:=TG.Fh (w:=w) (pv:=pv) (uv:=uv) (P:=PP) (ms:=ms) (us:=Sy R k) (by repeat (first|exact uO.o|refine TG.drew ?_|refine TG.alloc ?_ _)) HG;have c5:=fK.cells.2.1;have f5:=fK.frozen 1;obtain ⟨va,vc,hv⟩:=Yz HO.o;subst hv)
      have Ol:=(uO.o.alloc (.cells (Qj u1 u2 ca u3.length cc u4) 108)).alloc (.cells (Qj u1 u2 ca u3.length cc u4) 108)
      have qz:=Zh (Ol.O4 (⟨u1,u2,u3,u4⟩,.slice ca u3.length cc) ((HCR.o.below (Z' _ _)).below (Z' _ _)) HO HG)
      have HM2:Hid ((ms++[((⟨u1,u2,u3,u4⟩:XK),Value.slice ca u3.length cc)]).map Prod.fst=QC R (k+1)):=by show _=_;rw [ND,I6.o,HSS2.o];rfl
      clear Ol c5 f5 cb fb
      generalize ms++[((⟨u1,u2,u3,u4⟩:XK),Value.slice ca u3.length cc)]=fF at *
      generalize jJ:Value.slice va (ms.length+1) vc=uA at qz
      clear jJ
      exact Yx9
    ·obtain rfl:k=9:=by omega
     have c0:=R5.o.tb.cells
     obtain ⟨pa,pc,hp⟩:=Yz R5.o.pe
     obtain ⟨sa,sc,hs⟩:=Yz R5.o.sr
     obtain ⟨ua,uc,hu⟩:=Yz R5.o.su
     subst hp hs hu
     obtain ⟨c1,c2,c3⟩:=c0
     have Ri:=R5.o.tb.Lv
     have d0:∀ j,j<3→wr.cell? ⟨w,j,none⟩=some (.slice none 0 0)∧wr.frozen? ⟨w,j,none⟩=false:=by
      intro j hj
      have:j=0∨j=1∨j=2:=by omega
      rcases this with rfl|rfl|rfl <;> exact ⟨by simp only [World.cell?,Ri];rfl,by simp [World.frozen?,Ri]⟩
     obtain ⟨d1,e1⟩:=d0 0 Zo
     obtain ⟨d2,e2⟩:=d0 1 Zo
     obtain ⟨d3,e3⟩:=d0 2 Zo
     clear d0 Ri
     have R3:=Zh (kg (v0:= .slice pa PP.length pc) (v1:= .slice sa ms.length sc) (v2:= .slice ua (Sy R 9).length uc) d1 d2 d3)
     go_wp2
     obtain ⟨r0,r1,r2⟩:=R3.o
     refine VR (v:= .agg (Qp pa PP.length pc sa ms.length sc ua (Sy R 9).length uc)) (by simp [results,Tryz.results47,go_sem,r0,r1,r2]) rfl ⟨⟨_,_,_,rfl,?_⟩,?_⟩
     ·have hf:Fr wr (· = w.heap.size) wr (((wr.setCell ⟨w,0,none⟩ (.slice pa PP.length pc)).setCell ⟨w,1,none⟩ (.slice sa ms.length sc)).setCell ⟨w,2,none⟩ (.slice ua (Sy R 9).length uc)):=(((Fr.refl _ _ _).setAt _ _).setAt _ _).setAt _ _
      exact bh
     ·exact ((R5.o.tb.YI.setCell Zi _).setCell Zi _).setCell Zi _
end Go.Proofs.Rm
namespace Go.Proofs.Frame
open Go.RowKit Go.WideShapes Go.ChangeShapes
section
variable {H:Type} {enc:TypeId × Value→H} {P:Program}
theorem Nt (hl:laidOutB P=true) {W W':World} {sp':Nat→Bool} (hb:Below W W W'):∀ {ts:List TypeId} {vs:List Value} {ds:List (DataW H)} {ps:List MemPlace},
  (∀ t∈ts,P.readableRec t=true∧t<P.types.size)→DataW.TrodAll enc P W 0 (fun _=>true) true ts vs ds ps→(∀ p∈ps,p.block<W.heap.size)→(∀ p∈ps,sp' p.block=true) →
  DataW.TrodAll enc P W' 0 sp' true ts vs ds ps
 | [],[],[],_,_,h,_,_=>h
 | t :: ts,v :: vs,d :: ds,ps,ht,h,Rj,hsp=>by
  obtain ⟨p,q,h1,h2,rfl⟩:=h
  refine ⟨p,q,?_,?_,rfl⟩
  ·exact WideElems.Trod_stays hl (ht t (List.mem_cons_self ..)).1 (ht t (List.mem_cons_self ..)).2 h1 (fun x hx=>hb.same (Rj x (De.2 (Wc hx)))) (fun x hx=>hsp x (De.2 (Wc hx)))
  ·exact Nt hl hb (fun t' h'=>ht t' (List.mem_cons_of_mem _ h')) h2 (fun x hx=>Rj x (De.2 (Wj hx))) (fun x hx=>hsp x (De.2 (Wj hx)))
 | [],[],_ :: _,_,_,h,_,_=>h.elim
 | [],_ :: _,_,_,_,h,_,_=>h.elim
 | _ :: _,[],_,_,_,h,_,_=>h.elim
 | _ :: _,_ :: _,[],_,_,h,_,_=>h.elim
theorem sS {f:Func} {s:ChangeSpec} {apart fresh handsOn again:Bool} {W W':World} {args:Array Value} {ds gs:List (DataW H)} {before:List MemPlace} {tb:TypeId}
  (hW:DataW.Whole enc P f.params.toList s.vars apart W args.toList ds gs before) (hl:laidOutB P=true) (ht:∀ t∈f.params.toList,P.readableRec t=true∧t<P.types.size)
  (hv:s.vars=[]) (hs:s.fn H (ds++gs)={results:=[.lit (.bool true)],args:=ds}) (LQ:f.resultTypes=#[tb]) (lN:P.underlying tb=some .bool)
  (hb:Below W W W') :
  s.post enc P f apart fresh handsOn again W args (.bool true) W':=by
 have Rj:∀ p∈before,p.block<W.heap.size:=fun p hp=>hW.lt p hp
 have hold:∀ p∈before,(fun b=>decide (b<W.heap.size)) p.block=true:=fun p hp=>by simpa using Rj p hp
 have hW0:=hW
 obtain ⟨p,q,hA,hV,mg,hz,hn⟩:=hW
 rw [hv] at hV
 obtain ⟨rfl,rfl⟩:=trodVars_none hV
 rw [Df] at mg
 subst mg
 have rS:∀ sp:Nat→Bool,(∀ p∈before,sp p.block=true)→DataW.TrodAll enc P W' 0 sp true f.params.toList args.toList (s.fn H (ds++[])).args before:=by
  intro sp hsp
  rw [hs]
  exact Nt hl hb ht hA Rj hsp
 have hr:∀ (b:Nat) (sp:Nat→Bool) (hd:Bool),DataW.TrodAll enc P W' b sp hd f.resultTypes.toList ((Value.bool true).resultList f.resultTypes.size) (s.fn H (ds++[])).results []:=by
  intro b sp hd
  rw [hs,LQ]
  exact trodAll_cons_mk (shut_bool lN _) trodAll_mk0
 have mq:∀ sp:Nat→Bool,(∀ p∈before,sp p.block=true)→DataW.TrodVars enc P W' sp s.vars (s.fn H (ds++[])).vars []:=by
  intro sp _
  rw [hs,hv]
  rfl
 have VU:∀ (j:Nat) (t:TypeId) (r:Value),f.resultTypes[j]?=some t→((Value.bool true).resultList f.resultTypes.size)[j]?=some r→Value.okWide P W' .any 0 t r:=by
  exact ok_one LQ rfl (okWide_bool_mk lN _)
 refine ⟨ds,[],before,[],before,[],hW0,hr _ _ _,rS _ hold,mq _ hold,World.keptBut_mono (fun p hp=>⟨hp,?_⟩) (hb.frame (· ∈ before)),fun _=>?_⟩
 ·simpa using hp
 ·refine ⟨VU,_,_,([]++before)++[],⟨[]++before,[],trodAll_append (rS _ (fun _ _=>rfl)) (hr _ _ _),mq _ (fun _ _=>rfl),rfl,?_,?_⟩,?_⟩
  ·intro b off hp
   have Ie:MemPlace.cell b off∈before:=by simpa using hp
   rw [hb.frozen (Rj _ Ie)]
   exact hz b off Ie
  ·intro ha
   simpa using hn ha
  ·intro p hp _
   simpa using hp
theorem A7 {r:Reach} {b0:Nat} {t e:TypeId} {W:World} {v:Value} (ht:P.underlying t=some (.slice e)) (h:Value.okWide P W r b0 t v):v.cells=#[v]:=by
 obtain ⟨a,l,c,rfl⟩:=okWide_slice ht h
 rfl
end
end Go.Proofs.Frame
namespace Go.Proofs.Rm
open Go.RowKit Go.WideShapes Go.ChangeShapes Go.Proofs.Heap Go.Proofs.Mem Go.Deep
structure eK where
 o:Op
 sa:Option Addr
 sc:Nat
 ba:Option Addr
 bl:Nat
 bc:Nat
def XF (x:eK):List Value:=(Ji x.o x.sa x.o.ZO.length x.sc x.ba x.bl x.bc)
section
variable {H:Type} {enc:TypeId × Value→H} {W:World} {base:Nat} {sp:Nat→Bool} {held:Bool}
theorem NZ {w:World} {a:Addr} {v:Value} (h:w.cell? a=some v):a=⟨a.block,a.off,none⟩:=by
 obtain ⟨b,o,s⟩:=a
 cases s with
 | none=>rfl
 | some x=>simp [World.cell?] at h;split at h <;> simp_all
theorem Lt {a:Addr} (h:a=⟨a.block,a.off,none⟩) (j:Nat):a.add j=⟨a.block,a.off+j,none⟩:=by
 unfold Addr.add
 split
 ·rename_i h0;subst h0;exact h
 ·rw [h]
theorem Gd {fuel:Nat} {v:Value} {x:DataW H × List MemPlace} (h:DataW.trod enc Tryz.prog W base sp held fuel 29 [v]=some x):∃ (l:List Int) (a:Option Addr) (c:Nat),v = .slice a l.length c∧Yf W (.slice a l.length c) l.length (Zb l):=by
 rcases open_slice1 Tryz.underlying29 Zg h with ⟨hc,_⟩|⟨a,len,cap,m,n,V,D,Pl,SK,hb,hl,hm,cX,_,hx⟩
 ·exact ⟨[],none,0,by simpa using hc,Yf.nil _⟩
 ·have Dl:len≤m:=by rw [cX];split <;> omega
  have hv:v = .slice (some a) len cap:=by simpa using SK
  have key:∀ i,i<len→∃ z,W.cell? (a.add i)=some (.int .u32 z)∧V i = .int .u32 z:=by
   intro i hi
   obtain ⟨h1,h2⟩:=hx i Zo
   obtain ⟨z,hz,_⟩:=DataW.trod_int Tryz.underlying66 h2
   have hz:V i = .int .u32 z:=by simpa using hz
   exact ⟨z,by rw [h1,hz],hz⟩
  let l:List Int:=(List.range len).map fun i=>match V i with | .int _ z=>z|_=>0
  have yY:l.length=len:=by simp [l]
  refine ⟨l,some a,cap,by rw [yY];exact hv,some a,cap,rfl,by rw [yY];exact hl,hm,(fun h=>by cases h),?_⟩
  by_cases h0:len=0
  ·exact Wc (DM (by rw [Wx,yY];exact h0))
  ·obtain ⟨z0,pS,_⟩:=key 0 Zo
   have sL:W.cell? a=some (.int .u32 z0):=by unfold Addr.add at pS;simpa using pS
   have ha:=NZ sL
   refine Wj ⟨a.block,a.off,by rw [←ha],World.block_lt_of_cell? W a sL,fun j hj=>?_⟩
   rw [Wx,yY] at hj
   obtain ⟨z,hz,hV⟩:=key j hj
   rw [←Lt ha,hz]
   simp [Zb,l,hj,hV]
theorem seven {α:Type} {l:List α} (h:l.length=7):∃ c0 c1 c2 c3 c4 c5 c6,l=[c0,c1,c2,c3,c4,c5,c6]:=by
 obtain _|⟨c0,l⟩:=l
 ·simp at h
 obtain _|⟨c1,l⟩:=l
 ·simp at h
 obtain _|⟨c2,l⟩:=l
 ·simp at h
 obtain _|⟨c3,l⟩:=l
 ·simp at h
 obtain _|⟨c4,l⟩:=l
 ·simp at h
 obtain _|⟨c5,l⟩:=l
 ·simp at h
 obtain _|⟨c6,l⟩:=l
 ·simp at h
 obtain _|⟨c7,l⟩:=l
 ·exact ⟨_,_,_,_,_,_,_,rfl⟩
 ·simp at h
theorem OA {P:Program} {e:TypeId}:∀ {l:List (DataW H)} {d:DataW H},d∈l→∀ n∈d.weights P e,n∈DataW.weightsAll P e l
 | d0 :: l,d,hd,n,hn=>by
  simp only [DataW.weightsAll,De]
  rcases KG.1 hd with rfl|hd
  ·exact Wc hn
  ·exact Wj (OA hd n hn)
 | [],_,hd,_,_=>by simp at hd
end
theorem Ez {α:Type} (f:α→List Value) (k:Nat) (hk:∀ x,(f x).length=k) (lW:0<k) {w:World} {e:TypeId} {v:Value} {n:Nat} {l:List α} (h:Row w e v n (l.flatMap f)) (hl:0<l.length) :
  ∃ g off cap,v = .slice (some ⟨g,off,none⟩) n cap∧n≤cap∧cap≤maxLen∧g<w.heap.size∧∀ (i:Nat) (x:α),l[i]?=some x→∀ j,j<k→w.cell? ⟨g,off+i*k+j,none⟩=(f x)[j]?:=by
 exact bg
theorem Sm {α:Type} {a b:List α} {k:Nat} (ha:k<a.length) (hb:k<b.length) (h:a.take k=b.take k) (e:a[k]=b[k]):a.take (k+1)=b.take (k+1):=by
 rw [List.take_succ_eq_append_getElem ha,List.take_succ_eq_append_getElem hb,h,e]
end Go.Proofs.Rm
namespace Go.Proofs.Rm
open Go.RowKit Go.Proofs.Heap Go.Proofs.Mem
theorem z_ {a b:List Int} {k:Nat} (ha:k<a.length) (hb:k<b.length) (h:a.take k=b.take k) (e:a.getD k 0=b.getD k 0):a.take (k+1)=b.take (k+1):=by
 rw [Sq,Sq,VQ ha,VQ hb] at e
 exact Sm ha hb h e
theorem Hi (x y:XK) (sa sb:Option Addr) (ca cb:Nat) (w:World) (h1:Row w 66 (.slice sa x.ss.length ca) x.ss.length (Zb x.ss)) (h2:Row w 66 (.slice sb y.ss.length cb) y.ss.length (Zb y.ss)) :
  Calls Tryz.prog 45 #[.agg (Qj x.num x.own sa x.ss.length ca x.ZE),.agg (Qj y.num y.own sb y.ss.length cb y.ZE)] w fun e w'=>e = .returned (.bool (decide (x=y)))∧Below w w w':=by
 obtain ⟨xn,xo,xs,xm⟩:=x
 obtain ⟨yn,yo,ys,ym⟩:=y
 dsimp only at *
 have n1:=h1.len
 have n2:=h2.len
 have MC:Hid (∀ w',Below w w w'→Row w' 66 (.slice sa xs.length ca) xs.length (Zb xs)):=fun w' hb=>h1.below hb
 have uh:Hid (∀ w',Below w w w'→Row w' 66 (.slice sb ys.length cb) ys.length (Zb ys)):=fun w' hb=>h2.below hb
 clear h1 h2
 by_cases hl:xs.length=ys.length
 ·have HB:Hid (∀ w',Below ((w.alloc (.cells (Qj xn xo sa xs.length ca xm) 108)).alloc (.cells (Qj yn yo sb ys.length cb ym) 108)).heap.size ((w.alloc (.cells (Qj xn xo sa xs.length ca xm) 108)).alloc (.cells (Qj yn yo sb ys.length cb ym) 108)) w' →
    (w'.cell? ⟨w,0,none⟩=some (.int .i64 xn)∧w'.cell? ⟨w,1,none⟩=some (.int .i64 xo)∧w'.cell? ⟨w,2,none⟩=some (.slice sa xs.length ca)∧w'.cell? ⟨w,3,none⟩=some (.bool xm)) ∧
    (w'.cell? ⟨w.heap.size+1,0,none⟩=some (.int .i64 yn)∧w'.cell? ⟨w.heap.size+1,1,none⟩=some (.int .i64 yo)∧w'.cell? ⟨w.heap.size+1,2,none⟩=some (.slice sb ys.length cb)∧w'.cell? ⟨w.heap.size+1,3,none⟩=some (.bool ym))∧Below w w w'):=fun w' hb=>
   ⟨⟨Zy hb ((UZ rfl _ _ _ _).trans rfl),Zy hb ((UZ rfl _ _ _ _).trans rfl),Zy hb ((UZ rfl _ _ _ _).trans rfl),Zy hb ((UZ rfl _ _ _ _).trans rfl)⟩,
    ⟨Zy hb ((U0 rfl _ _ _ _).trans rfl),Zy hb ((U0 rfl _ _ _ _).trans rfl),Zy hb ((U0 rfl _ _ _ _).trans rfl),Zy hb ((U0 rfl _ _ _ _).trans rfl)⟩,
    ((((YG _ _).alloc (ZB _) _).alloc Zi _).trans (hb.mono VB))⟩
  have HL:=Zh hl
  rw [←hl] at HB n2
  rw [←hl]
  clear hl
  go_enter Tryz.func45,Tryz.ntmps45
  go_wp2
  go_loopw [16] (fun i w'=>∃ k:Nat,k≤xs.length∧i = .int .i64 k∧Below ((w.alloc (.cells (Qj xn xo sa xs.length ca xm) 108)).alloc (.cells (Qj yn yo sb xs.length cb ym) 108)).heap.size ((w.alloc (.cells (Qj xn xo sa xs.length ca xm) 108)).alloc (.cells (Qj yn yo sb xs.length cb ym) 108)) w'∧Hid (xs.take k=ys.take k)) (fun i _=>xs.length-(intOf i).toNat)
  case atStart=>exact ⟨0,Zo,rfl,YG _ _,rfl⟩
  case round=>
   obtain ⟨k,hk,rfl,XS,HT⟩:=hrel
   have ER:=Zh XS
   obtain ⟨⟨a0,a1,a2,a3⟩,⟨b0,b1,b2,b3⟩,TK⟩:=HB.o wr XS
   clear XS
   by_cases W_:k<xs.length
   ·have KQ:k<ys.length:=by have:=HL.o;omega
    obtain ⟨g1,o1,c1,e1,_,_,_,GC⟩:=RQ (MC.o wr TK) Zo
    obtain ⟨g2,o2,c2,e2,_,_,_,Mx⟩:=RQ (uh.o wr TK) Zo
    cases e1
    injection e2 with e2 e3 e4
    subst e2 e4
    have d1:=GC k W_
    have d2:=Mx k KQ
    clear GC Mx e3
    have Du:Hid (xs.getD k 0=ys.getD k 0→xs.take (k+1)=ys.take (k+1)):=z_ W_ KQ HT.o
    have Hg:Hid (¬xs.getD k 0=ys.getD k 0→¬(⟨xn,xo,xs,xm⟩:XK)=⟨yn,yo,ys,ym⟩):=fun h e=>h (by injection e with _ _ e _;rw [e])
    by_cases he:xs.getD k 0=ys.getD k 0
    ·have HF:=Zh (Du.o he)
     rw [←he] at d2
     clear he Du Hg
     generalize xs.getD k 0=u at *
     exact qN
    ·have HF:=Zh (Hg.o he)
     generalize xs.getD k 0=u at *
     generalize ys.getD k 0=v at *
     have Dh:(u != v)=true:=by rw [TF];exact he
     clear he Du Hg
     exact gS
   ·have HE:Hid (xs=ys):=by
     have:=HT.o
     rw [I8 Zo,I8 (by have:=HL.o;omega)] at this
     exact this
    by_cases e0:xn=yn
    ·by_cases e1:xo=yo
     ·by_cases e2:xm=ym
      ·have HF:Hid ((⟨xn,xo,xs,xm⟩:XK)=⟨yn,yo,ys,ym⟩):=by show _=_;rw [e0,e1,e2,HE.o]
       subst e0 e1 e2
       go_wp2
       go_ret
       exact ⟨YB (by rw [Ws HF.o]),TK⟩
      ·have HF:Hid (¬(⟨xn,xo,xs,xm⟩:XK)=⟨yn,yo,ys,ym⟩):=fun e=>e2 (by injection e)
       have Dh:(xm == ym)=false:=by rw [WT];exact e2
       subst e0 e1
       go_wp2
       go_ret
       exact ⟨YB yD,TK⟩
     ·have HF:Hid (¬(⟨xn,xo,xs,xm⟩:XK)=⟨yn,yo,ys,ym⟩):=fun e=>e1 (by injection e)
      have Dh:(xo == yo)=false:=by rw [WT];exact e1
      subst e0
      go_wp2
      go_ret
      exact ⟨YB yD,TK⟩
    ·have HF:Hid (¬(⟨xn,xo,xs,xm⟩:XK)=⟨yn,yo,ys,ym⟩):=fun e=>e0 (by injection e)
     have Dh:(xn == yn)=false:=by rw [WT];exact e0
     go_wp2
     go_ret
     exact ⟨YB yD,TK⟩
 ·have HF:Hid (¬(⟨xn,xo,xs,xm⟩:XK)=⟨yn,yo,ys,ym⟩):=fun e=>hl (by injection e with _ _ e _;rw [e])
  have hb:((xs.length:Int) != (ys.length:Int))=true:=by rw [TF];omega
  have Y0:(xs.length != ys.length)=true:=by rw [TF];omega
  go_enter Tryz.func45,Tryz.ntmps45
  go_wp2
  go_ret
  exact ⟨YB yD,((YG _ _).alloc (ZB _) _).alloc Zi _⟩
theorem slice_inj {a b:Option Addr} {n m c d:Nat} (h:Value.slice a n c = .slice b m d):a=b∧c=d:=by
 injection h with h1 h2 h3
 exact ⟨h1,h3⟩
theorem L_ {w:World} {a:Option Addr} {c:Nat} {l:List WU} (h:Row w 103 (.slice a l.length c) l.length (l.flatMap Zf)) (hl:0<l.length):∃ g off,a=some ⟨g,off,none⟩∧∀ (i:Nat) (x:WU),l[i]?=some x →
  w.cell? ⟨g,off+i*2,none⟩=some (.int .i64 x.num)∧w.cell? ⟨g,off+i*2+1,none⟩=some (.string (str x.name)):=by
 exact aH
theorem Td {w:World} {a:Option Addr} {c:Nat} {l:List WJ} (h:Row w 105 (.slice a l.length c) l.length (l.flatMap ZL)) (hl:0<l.length):∃ g off,a=some ⟨g,off,none⟩∧∀ (i:Nat) (x:WJ),l[i]?=some x →
  w.cell? ⟨g,off+i*4,none⟩=some (.int .i64 x.peer)∧w.cell? ⟨g,off+i*4+1,none⟩=some (.int .i64 x.source)∧w.cell? ⟨g,off+i*4+2,none⟩=some (.int .i64 x.want)∧w.cell? ⟨g,off+i*4+3,none⟩=some (.bool x.ZR):=by
 obtain ⟨g,off,cap,h1,_,_,_,h5⟩:=Ez ZL 4 (fun _=>rfl) Zo h hl
 exact ⟨g,off,(slice_inj h1).1,fun i x hx=>⟨h5 i x hx 0 Zo,h5 i x hx 1 Zo,h5 i x hx 2 Zo,h5 i x hx 3 Zo⟩⟩
theorem U3 {w:World} {a:Option Addr} {c:Nat} {l:List (XK × Value)} (h:Row w 108 (.slice a l.length c) l.length (l.flatMap ZJ)) (hl:0<l.length):∃ g off,a=some ⟨g,off,none⟩∧∀ (i:Nat) (x:XK × Value),l[i]?=some x →
  w.cell? ⟨g,off+i*4,none⟩=some (.int .i64 x.1.num)∧w.cell? ⟨g,off+i*4+1,none⟩=some (.int .i64 x.1.own)∧w.cell? ⟨g,off+i*4+2,none⟩=some x.2∧w.cell? ⟨g,off+i*4+3,none⟩=some (.bool x.1.ZE):=by
 obtain ⟨g,off,cap,h1,_,_,_,h5⟩:=Ez ZJ 4 (fun _=>rfl) Zo h hl
 exact ⟨g,off,(slice_inj h1).1,fun i x hx=>⟨h5 i x hx 0 Zo,h5 i x hx 1 Zo,h5 i x hx 2 Zo,h5 i x hx 3 Zo⟩⟩
theorem IV {α:Type} {a b:List α} {k:Nat} (h:a.take k=b.take k) (ha:a.length≤k) (hb:b.length≤k):a=b:=by
 rw [I8 ha,I8 hb] at h
 exact h
theorem Na (pv sv uv pv' QB Kz:Value) (A B:ZU) (w:World) (h1:Sp w pv sv uv A) (h2:Sp w pv' QB Kz B) :
  Calls Tryz.prog 20 #[.agg #[pv,sv,uv],.agg #[pv',QB,Kz]] w fun e w'=>e = .returned (.bool (decide (A=B)))∧Below w w w':=by
 obtain ⟨P,S,U⟩:=A
 obtain ⟨P',S',U'⟩:=B
 obtain ⟨hp,⟨ms,Vd,hs,hr⟩,hu⟩:=h1
 obtain ⟨Bw,⟨L4,js,uy,hr'⟩,mo⟩:=h2
 dsimp only at *
 have m1:=hp.len
 have m2:=hs.len
 have m3:=hu.len
 obtain ⟨pa,pc,rfl,_⟩:=id hp
 obtain ⟨sa,sc,rfl,_⟩:=id hs
 obtain ⟨ua,uc,rfl,_⟩:=id hu
 obtain ⟨pa',px,rfl,_⟩:=id Bw
 obtain ⟨sa',sc',rfl,_⟩:=id uy
 obtain ⟨ua',uc',rfl,_⟩:=id mo
 have HP:Hid (∀ w',Below w w w'→Row w' 103 (.slice pa P.length pc) P.length (P.flatMap Zf)∧Row w' 103 (.slice pa' P'.length px) P'.length (P'.flatMap Zf)):=fun w' hb=>⟨hp.below hb,Bw.below hb⟩
 have HU:Hid (∀ w',Below w w w'→Row w' 105 (.slice ua U.length uc) U.length (U.flatMap ZL)∧Row w' 105 (.slice ua' U'.length uc') U'.length (U'.flatMap ZL)):=fun w' hb=>⟨hu.below hb,mo.below hb⟩
 have HS:Hid (∀ w',Below w w w'→Row w' 108 (.slice sa ms.length sc) ms.length (ms.flatMap ZJ)∧Row w' 108 (.slice sa' L4.length sc') L4.length (L4.flatMap ZJ)∧(∀ m∈ms,Row w' 66 m.2 m.1.ss.length (Zb m.1.ss))∧(∀ m∈L4,Row w' 66 m.2 m.1.ss.length (Zb m.1.ss))):=fun w' hb=>⟨hs.below hb,uy.below hb,fun m hm=>(hr m hm).below hb,fun m hm=>(hr' m hm).below hb⟩
 have I6:=Zh Vd
 have HMS':=Zh js
 have HT:Hid ((⟨P,S,U⟩:ZU)=⟨P',S',U'⟩↔P=P'∧S=S'∧U=U'):=by show _↔_;rw [ZU.mk.injEq]
 have ME:Hid (S.length=ms.length∧S'.length=L4.length):=⟨by rw [←Vd,UM],by rw [←js,UM]⟩
 clear hp Bw hs uy hr hr' hu mo Vd js
 by_cases l1:P.length=P'.length
 rotate_left
 ·have HF:Hid (¬(⟨P,S,U⟩:ZU)=⟨P',S',U'⟩):=fun e=>l1 (by rw [(HT.o.1 e).1])
  have hb:((P.length:Int) != (P'.length:Int))=true:=by rw [TF];omega
  have Y0:(P.length != P'.length)=true:=by rw [TF];omega
  exact ib
 by_cases l2:ms.length=L4.length
 rotate_left
 ·have HF:Hid (¬(⟨P,S,U⟩:ZU)=⟨P',S',U'⟩):=fun e=>l2 (by rw [←ME.o.1,←ME.o.2,(HT.o.1 e).2.1])
  have hb:((ms.length:Int) != (L4.length:Int))=true:=by rw [TF];omega
  have Y0:(ms.length != L4.length)=true:=by rw [TF];omega
  rw [←l1]
  clear l1
  exact ib
 by_cases l3:U.length=U'.length
 rotate_left
 ·have HF:Hid (¬(⟨P,S,U⟩:ZU)=⟨P',S',U'⟩):=fun e=>l3 (by rw [(HT.o.1 e).2.2])
  have hb:((U.length:Int) != (U'.length:Int))=true:=by rw [TF];omega
  have Y0:(U.length != U'.length)=true:=by rw [TF];omega
  rw [←l1,←l2]
  clear l1 l2
  exact ib
 have Lb:=Zh l1
 have Dc:=Zh l2
 have kv:=Zh l3
 rw [←l1,←l2,←l3]
 clear l1 l2 l3
 obtain ⟨iF,Ng⟩:∃ o:Obj,o = .cells (Qp pa P.length pc sa ms.length sc ua U.length uc) 51:=⟨_,rfl⟩
 obtain ⟨iG,PT⟩:∃ o:Obj,o = .cells (Qp pa' P.length px sa' ms.length sc' ua' U.length uc') 51:=⟨_,rfl⟩
 have HB:Hid (∀ w',Below ((w.alloc iF).alloc iG).heap.size ((w.alloc iF).alloc iG) w' →
    (w'.cell? ⟨w,0,none⟩=some (.slice pa P.length pc)∧w'.cell? ⟨w,1,none⟩=some (.slice sa ms.length sc)∧w'.cell? ⟨w,2,none⟩=some (.slice ua U.length uc)) ∧
    (w'.cell? ⟨w.heap.size+1,0,none⟩=some (.slice pa' P.length px)∧w'.cell? ⟨w.heap.size+1,1,none⟩=some (.slice sa' ms.length sc')∧w'.cell? ⟨w.heap.size+1,2,none⟩=some (.slice ua' U.length uc'))∧Below w w w'):=fun w' hb=>by
  subst Ng PT
  exact ⟨⟨Zy hb ((UZ rfl _ _ _ _).trans rfl),Zy hb ((UZ rfl _ _ _ _).trans rfl),Zy hb ((UZ rfl _ _ _ _).trans rfl)⟩,
    ⟨Zy hb ((U0 rfl _ _ _ _).trans rfl),Zy hb ((U0 rfl _ _ _ _).trans rfl),Zy hb ((U0 rfl _ _ _ _).trans rfl)⟩,
    ((((YG _ _).alloc (ZB _) _).alloc Zi _).trans (hb.mono VB))⟩
 have Wy:=Zh Ng
 have XA:=Zh PT
 obtain ⟨WW,hWW⟩:∃ W:World,W=((w.alloc iF).alloc iG):=⟨_,rfl⟩
 rw [←hWW] at HB
 have HW:Hid (WW=((w.alloc (.cells (Qp pa P.length pc sa ms.length sc ua U.length uc) 51)).alloc (.cells (Qp pa' P.length px sa' ms.length sc' ua' U.length uc') 51))):=by show _=_;rw [hWW,Ng,PT]
 clear Ng PT hWW Wy XA
 go_enter Tryz.func20,Tryz.ntmps20
 go_wp2
 go_loopw [36] (fun i w'=>∃ k:Nat,k≤P.length∧i = .int .i64 k∧Below WW WW w'∧Hid (P.take k=P'.take k)) (fun i _=>P.length-(intOf i).toNat)
 case atStart=>exact ⟨0,Zo,rfl,by rw [HW.o];exact YG _ _,rfl⟩
 case round=>
  obtain ⟨k,hk,rfl,XS,Pv⟩:=hrel
  have ER:=Zh XS
  obtain ⟨⟨a0,a1,a2⟩,⟨b0,b1,b2⟩,TK⟩:=HB.o wr XS
  clear XS
  by_cases W_:k<P.length
  ·have KQ:k<P'.length:=by have:=Lb.o;omega
   obtain ⟨g1,o1,e1,GC⟩:=L_ (HP.o wr TK).1 Zo
   obtain ⟨g2,o2,e2,Mx⟩:=L_ (HP.o wr TK).2 Zo
   subst e1 e2
   obtain ⟨c0,c1⟩:=GC k P[k] (VQ W_)
   obtain ⟨d0,d1⟩:=Mx k P'[k] (VQ KQ)
   clear GC Mx
   have Du:Hid (P[k]=P'[k]→P.take (k+1)=P'.take (k+1)):=Sm W_ KQ Pv.o
   have Hg:Hid (¬P[k]=P'[k]→¬(⟨P,S,U⟩:ZU)=⟨P',S',U'⟩):=fun h e=>h (by have:=(HT.o.1 e).1;subst this;rfl)
   generalize P[k]=x at *
   generalize P'[k]=y at *
   obtain ⟨x0,x1⟩:=x
   obtain ⟨y0,y1⟩:=y
   dsimp only at c0 c1 d0 d1
   by_cases f0:x0=y0
   ·by_cases f1:x1=y1
    ·have HF:=Zh (Du.o (by rw [f0,f1]))
     subst f0 f1
     clear Du Hg
     exact qN
    ·have HF:=Zh (Hg.o (fun e=>f1 (by injection e)))
     have hq:((str x1).toList == (str y1).toList)=false:=by rw [WT,ByteArray.toList_eq,ByteArray.toList_eq];exact f1
     subst f0
     clear Du Hg f1
     exact gS
   ·have HF:=Zh (Hg.o (fun e=>f0 (by injection e)))
    clear Du Hg
    exact gS
  ·have HPP:Hid (P=P'):=IV Pv.o Zo (by have:=Lb.o;omega)
   clear Pv
   obtain ⟨wo,rfl⟩:∃ wo:World,wo=wr:=⟨_,rfl⟩
   go_wp2
   go_loopw [54] (fun i w'=>∃ k:Nat,k≤U.length∧i = .int .i64 k∧Below WW WW w'∧Hid (U.take k=U'.take k)) (fun i _=>U.length-(intOf i).toNat)
   case atStart=>exact ⟨0,Zo,rfl,ER.o,rfl⟩
   case round=>
    clear ER a0 a1 a2 b0 b1 b2 TK
    obtain ⟨k,hk,rfl,XS,Pv⟩:=hrel
    have ER:=Zh XS
    obtain ⟨⟨a0,a1,a2⟩,⟨b0,b1,b2⟩,TK⟩:=HB.o wr XS
    clear XS
    by_cases W_:k<U.length
    ·have KQ:k<U'.length:=by have:=kv.o;omega
     obtain ⟨g1,o1,e1,GC⟩:=Td (HU.o wr TK).1 Zo
     obtain ⟨g2,o2,e2,Mx⟩:=Td (HU.o wr TK).2 Zo
     subst e1 e2
     obtain ⟨c0,c1,c2,c3⟩:=GC k U[k] (VQ W_)
     obtain ⟨d0,d1,d2,d3⟩:=Mx k U'[k] (VQ KQ)
     clear GC Mx
     have Du:Hid (U[k]=U'[k]→U.take (k+1)=U'.take (k+1)):=Sm W_ KQ Pv.o
     have Hg:Hid (¬U[k]=U'[k]→¬(⟨P,S,U⟩:ZU)=⟨P',S',U'⟩):=fun h e=>h (by have:=(HT.o.1 e).2.2;subst this;rfl)
     generalize U[k]=x at *
     generalize U'[k]=y at *
     obtain ⟨x0,x1,x2,x3⟩:=x
     obtain ⟨y0,y1,y2,y3⟩:=y
     dsimp only at c0 c1 c2 c3 d0 d1 d2 d3
     by_cases f0:x0=y0
     rotate_left
     ·have HF:=Zh (Hg.o (fun e=>f0 (by injection e)))
      clear Du Hg
      exact gS
     subst f0
     by_cases f1:x1=y1
     rotate_left
     ·have HF:=Zh (Hg.o (fun e=>f1 (by injection e)))
      clear Du Hg
      exact gS
     subst f1
     by_cases f2:x2=y2
     rotate_left
     ·have HF:=Zh (Hg.o (fun e=>f2 (by injection e)))
      clear Du Hg
      exact gS
     subst f2
     by_cases f3:x3=y3
     rotate_left
     ·have HF:=Zh (Hg.o (fun e=>f3 (by injection e)))
      have hq:(x3 == y3)=false:=by rw [WT];exact f3
      clear Du Hg
      exact gS
     subst f3
     have HF:=Zh (Du.o rfl)
     clear Du Hg
     exact qN
    ·have HUU:Hid (U=U'):=IV Pv.o Zo (by have:=kv.o;omega)
     clear Pv
     obtain ⟨wo2,rfl⟩:∃ wo:World,wo=wr:=⟨_,rfl⟩
     go_wp2
     go_loopw [72] (fun i w'=>∃ k:Nat,k≤ms.length∧i = .int .i64 k∧Below WW WW w'∧Hid ((ms.map Prod.fst).take k=(L4.map Prod.fst).take k)) (fun i _=>ms.length-(intOf i).toNat)
     case atStart=>exact ⟨0,Zo,rfl,ER.o,rfl⟩
     case round=>
      clear ER a0 a1 a2 b0 b1 b2 TK
      obtain ⟨k,hk,rfl,XS,Pv⟩:=hrel
      have ER:=Zh XS
      obtain ⟨⟨a0,a1,a2⟩,⟨b0,b1,b2⟩,TK⟩:=HB.o wr XS
      clear XS
      by_cases W_:k<ms.length
      ·have KQ:k<L4.length:=by have:=Dc.o;omega
       obtain ⟨q1,q2,q3,q4⟩:=HS.o wr TK
       obtain ⟨g1,o1,e1,GC⟩:=U3 q1 Zo
       obtain ⟨g2,o2,e2,Mx⟩:=U3 q2 Zo
       subst e1 e2
       obtain ⟨c0,c1,c2,c3⟩:=GC k ms[k] (VQ W_)
       obtain ⟨d0,d1,d2,d3⟩:=Mx k L4[k] (VQ KQ)
       have r1:=q3 ms[k] (Pw W_)
       have r2:=q4 L4[k] (Pw KQ)
       clear GC Mx q1 q2 q3 q4
       have Du:Hid (ms[k].1=L4[k].1→(ms.map Prod.fst).take (k+1)=(L4.map Prod.fst).take (k+1)):=fun e=>Sm (by rw [UM];exact W_) (by rw [UM];exact KQ) Pv.o (by rw [List.getElem_map,List.getElem_map];exact e)
       have Hg:Hid (¬ms[k].1=L4[k].1→¬(⟨P,S,U⟩:ZU)=⟨P',S',U'⟩):=fun h e=>h (by
        have h1:=(HT.o.1 e).2.1
        rw [←I6.o,←HMS'.o] at h1
        have h2:(ms.map Prod.fst)[k]?=(L4.map Prod.fst)[k]?:=by rw [h1]
        rw [List.getElem?_map,List.getElem?_map,VQ W_,VQ KQ] at h2
        simpa using h2)
       generalize ms[k]=x at *
       generalize L4[k]=y at *
       obtain ⟨x,xv⟩:=x
       obtain ⟨y,yv⟩:=y
       dsimp only at *
       obtain ⟨xa,xc,rfl,_⟩:=id r1
       obtain ⟨ya,yc,rfl,_⟩:=id r2
       have CS:Hid (∀ w1,Below wr wr w1→_):=fun w1 h=>Hi x y xa ya xc yc w1 (r1.below h) (r2.below h)
       clear r1 r2
       by_cases he:x=y
       ·have HF:=Zh (Du.o he)
        rw [Ws he] at CS
        clear Du Hg he
        go_wp2
        go_still_tail 10,Zg
        go_wp2_with (go_at_call 45;refine (CS.o _ (by repeat (first|exact YG _ _|refine Below.drew ?_))).mono ?_;rintro e w2 ⟨rfl,Y0⟩)
        go_roundw
        case rel=>exact ⟨k+1,Zo,Zn,ER.o.drew.trans (Y0.mono ER.o.size),HF.o⟩
        case measure=>simp [intOf];omega
       ·have HF:=Zh (Hg.o he)
        rw [WN he] at CS
        clear Du Hg he
        go_wp2
        go_still_tail 10,Zg
        go_wp2_with (go_at_call 45;refine (CS.o _ (by repeat (first|exact YG _ _|refine Below.drew ?_))).mono ?_;rintro e w2 ⟨rfl,Y0⟩)
        go_ret
        exact ⟨YB yD,TK.drew.trans (Y0.mono TK.size)⟩
      ·have HF:Hid ((⟨P,S,U⟩:ZU)=⟨P',S',U'⟩):=HT.o.2 ⟨HPP.o,by rw [←I6.o,←HMS'.o];exact IV Pv.o (by rw [UM];omega) (by rw [UM];have:=Dc.o;omega),HUU.o⟩
       go_wp2
       go_ret
       exact ⟨YB (by rw [Ws HF.o]),TK⟩
end Go.Proofs.Rm
namespace Go.Proofs.Rm
open Go.RowKit Go.Proofs.Heap Go.Proofs.Mem
open Go.Proofs.N_ (may key Xe)
theorem xZ {α:Type} (f:α→List Value) (k:Nat) (hk:∀ x,(f x).length=k) (lW:0<k) {w:World} {v:Value} {n:Nat} {l:List α} (h:Yf w v n (l.flatMap f)) (hl:0<l.length) :
  ∃ g off cap,v = .slice (some ⟨g,off,none⟩) n cap∧n≤cap∧cap≤maxLen∧g<w.heap.size∧∀ (i:Nat) (x:α),l[i]?=some x→∀ j,j<k→w.cell? ⟨g,off+i*k+j,none⟩=(f x)[j]?:=by
 exact bg
structure WZ (R:Room):Prop where
 short:∀ n,(R.src n).ss.length≤1000000
theorem Ot {R:Room} (h:WZ R) (n:Nat) (x:Src) (hx:x.ss.length≤1000000):WZ (R.Zt n x):=⟨fun m=>by rw [Xa];split;exact hx;exact h.short m⟩
theorem F7 {R:Room} (h:WZ R) (n:Nat):WZ (gone R n).2:=⟨fun m=>by rw [PN];split;exact TS _;exact h.short m⟩
theorem zU {R:Room} (h:WZ R) (p:Nat):WZ (leave R p).2:=by
 have h1:WZ (ZP p R 9).2:=⟨fun m=>by rw [(Sd R p 9).2];exact h.short m⟩
 exact ⟨fun m=>by show ((ZM (ZP p R 9).2 p 9).2.src m).ss.length≤_;rw [Pk];split;exact TS _;exact h1.short m⟩
theorem zV {R:Room} {o:Op} (h:WZ R) (ok:Ok R o) (sv:Value):WZ (turns R o sv).2:=by
 unfold turns
 dsimp only
 by_cases k2:o.kind=2
 ·rw [ZX k2];exact ⟨h.short⟩
 rw [Z6 k2]
 by_cases k3:o.kind=3
 ·rw [ZX k3];exact zU h _
 rw [Z6 k3]
 by_cases k4:o.kind=4
 ·rw [ZX k4];exact Ot h _ _ (by have:=(IE (ok.Ep k4)).2.1;show o.ZO.length≤_;omega)
 rw [Z6 k4]
 by_cases k5:o.kind=5
 ·rw [ZX k5];exact F7 h _
 rw [Z6 k5]
 by_cases k6:o.kind=6
 ·rw [ZX k6];exact ⟨h.short⟩
 rw [Z6 k6]
 by_cases k7:o.kind=7
 ·rw [ZX k7];exact ⟨h.short⟩
 rw [Z6 k7]
 by_cases k8:o.kind=8
 ·rw [ZX k8];exact Ot h _ _ (h.short _)
 rw [Z6 k8]
 by_cases k9:o.kind=9
 ·rw [ZX k9];exact Ot h _ _ (h.short _)
 rw [Z6 k9]
 split
 ·exact ⟨h.short⟩
 split
 ·exact ⟨h.short⟩
 split
 ·exact ⟨h.short⟩
 ·exact h
theorem RN {R:Room} (h:WZ R) (o:Op) (sv:Value):WZ (W9 R o sv).1.2:=by
 unfold W9
 by_cases h0:Yo R o=0
 ·rw [Z6 (by simpa using h0)];exact zV h (QH h0) sv
 ·rw [ZX h0];exact h
theorem VG:WZ empty:=⟨fun _=>TS _⟩
theorem Oq {R:Room} (h:WZ R) (p x:Int):WZ (Y7 R p x).1.2:=by
 unfold Y7
 split
 ·exact h
 ·exact F7 h _
end Go.Proofs.Rm
namespace Go.Proofs.Rm
open Go.RowKit Go.Proofs.Heap Go.Proofs.Mem
open Go.Proofs.N_ (may key Xe)
theorem Gb {R R':Room} (h:R.bare=R'.bare):table R=table R':=by
 have a:table R.bare=table R:=rfl
 have b:table R'.bare=table R':=rfl
 rw [←a,←b,h]
theorem O0 (b:Nat) (R:Room) (n:Nat) (w:World) (hR:Z4 w b R) (hI:Inv R) (hl:∀ n,(R.src n).ss.length≤1000000) :
  Calls Tryz.prog 81 (Ql (some ⟨b,0,none⟩) n) w fun e w'=>
   (∃ (nm ow:Int) (a:Option Addr) (k c:Nat) (mu has:Bool),e = .returned (.tuple (Qx (Qj nm ow a k c mu) has))∧has=(R.src n).there∧(has=true→ow=(R.src n).own))∧Below w w w':=by
 cases ht:(R.src n).there
 ·refine (E2 b R n w hR ?_).mono ?_
  ·rw [Xf,ht,Bool.and_false]
  ·rintro e w' ⟨rfl,hb⟩
   exact ⟨⟨_,_,_,_,_,_,_,rfl,rfl,fun h=>by cases h⟩,hb⟩
 ·have hs:=hI.Zq n ht
  refine (Hj b R n w hR ⟨hs.1,hs.2.1⟩ ht (hl n)).mono ?_
  rintro e w' ⟨⟨v',rfl,⟨a,c,rfl,_⟩⟩,hb⟩
  exact ⟨⟨_,_,_,_,_,_,_,rfl,rfl,fun _=>rfl⟩,hb⟩
end Go.Proofs.Rm
