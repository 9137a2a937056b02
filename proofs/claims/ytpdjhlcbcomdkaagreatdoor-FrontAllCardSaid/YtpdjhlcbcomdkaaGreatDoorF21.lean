/- Part of a proof. -/
import Derived.Test.YtpdjhlcbcomdkaaGreatDoorF20
set_option linter.unusedVariables false
set_option linter.unusedSimpArgs false
set_option maxRecDepth 100000
set_option maxHeartbeats 16000000
open Go Go.Q Go.Qr
namespace Go.Proofs.Rm
open Go.RowKit Go.Proofs.Heap Go.Proofs.Mem
open Go.Proofs.N_ (may key Xe)
theorem py (b:Nat) (T:ZU) (o:Op) (sa ba:Option Addr) (sc bl bc:Nat) (w:World) (hR:ZT w b T) (VV:T.Small) (hT:Xe w) (Vz:o.name.length<9223372036854775807) (TI:∀ x∈T.ZK,x.name.length<9223372036854775807)
  (Z7:Yf w (.slice sa o.ZO.length sc) o.ZO.length (Zb o.ZO)) (VU:T.Yo o=0→uR T o) :
  Calls Tryz.prog 72 (Qf (some ⟨b,0,none⟩) (Ji o sa o.ZO.length sc ba bl bc)) w (VA b T o w):=by
 by_cases hw:T.Yo o=0
 ·have ok:=VU hw
  have hk:=ok.kind
  have:o.kind=2∨o.kind=3∨o.kind=4∨o.kind=5∨o.kind=6∨o.kind=7∨o.kind=8∨o.kind=9∨o.kind=10∨o.kind=11∨o.kind=12:=by omega
  rcases this with h|h|h|h|h|h|h|h|h|h|h
  ·exact tG b T o sa ba sc bl bc w hR VV hT Vz TI Z7 hw ok h
  ·exact wm b T o sa ba sc bl bc w hR VV hT Vz TI Z7 hw ok h
  ·exact Ca b T o sa ba sc bl bc w hR VV hT Vz TI Z7 hw ok h
  ·exact GX b T o sa ba sc bl bc w hR VV hT Vz TI Z7 hw ok h
  ·exact GW b T o sa ba sc bl bc w hR VV hT Vz TI Z7 hw ok h
  ·exact JR b T o sa ba sc bl bc w hR VV hT Vz TI Z7 hw ok h
  ·exact tH b T o sa ba sc bl bc w hR VV hT Vz TI Z7 hw ok h
  ·exact zH b T o sa ba sc bl bc w hR VV hT Vz TI Z7 hw ok h
  ·exact wq b T o sa ba sc bl bc w hR VV hT Vz TI Z7 hw ok h
  ·exact zG b T o sa ba sc bl bc w hR VV hT Vz TI Z7 hw ok h
  ·exact tI b T o sa ba sc bl bc w hR VV hT Vz TI Z7 hw ok h
 ·exact pz b T o sa ba sc bl bc w hR VV hT Vz TI Z7 hw
theorem Ns (T:ZU) (k:Nat):T.YU (k+1)=T.YU k++if 0≤T.Yx ((k:Int)+1) then [T.ZK.getD (T.Yx ((k:Int)+1)).toNat ⟨0,[]⟩] else []:=by
 unfold ZU.YU;rw [Aq,QL];simp
theorem Mq (T:ZU) (k:Nat):T.Vi (k+1)=T.Vi k++if 0≤T.Zq ((k:Int)+1) then [T.Xb ((k:Int)+1)] else []:=by
 unfold ZU.Vi;rw [Aq,QL];simp
theorem Mr (T:ZU) (k:Nat):T.Xw (k+1)=T.Xw k++T.Vy ((k:Int)+1) (T.ZH ((k:Int)+1)):=by
 unfold ZU.Xw;rw [Aq,QL];simp
theorem Mp (T:ZU):∀ k,(T.YU k).length≤k
 | 0=>ZB _
 | k+1=>by rw [Ns,SP];have:=Mp T k;split <;> simp <;> omega
theorem Kv (T:ZU):∀ k,(T.Vi k).length≤k
 | 0=>ZB _
 | k+1=>by rw [Mq,SP];have:=Kv T k;split <;> simp <;> omega
theorem Kw (T:ZU):∀ k,(T.Xw k).length≤k*8
 | 0=>ZB _
 | k+1=>by
  rw [Mr,SP];have:=Kw T k
  have h2:(T.ZH ((k:Int)+1)).length≤8:=U8 T _ 8
  unfold ZU.Vy;rw [UM];omega
theorem Hl {w:World} {g o:Nat} {v:Value} (h:w.cell? ⟨g,o,none⟩=some v):g<w.heap.size:=by
 rcases Nat.lt_or_ge g w.heap.size with h1|h1
 ·exact h1
 ·simp [World.cell?,Gt h1] at h
theorem IH (b:Nat) (T:ZU) (w:World) (hR:ZT w b T) :
  Calls Tryz.prog 22 #[.pointer (some ⟨b,0,none⟩)] w fun e w'=>(∃ pv sv uv,e = .returned (.agg #[pv,sv,uv])∧Sp w' pv sv uv T.table)∧Below w w w':=by
 have hb:=hR.lt
 have HR:Hid (∀ w',Below w w w'→ZT w' b T):=fun w' h=>hR.below h
 have HTAB:Hid (T.table=⟨T.YU 8,T.Vi 8,T.Xw 8⟩):=rfl
 obtain ⟨rpv,rsv,ruv,YJ,X_⟩:=hR.Wh
 have Wp:=X_.ZK
 obtain ⟨PS,Vd,UR,MR⟩:=X_.Yv
 have V8:=X_.Z8
 have hlP:=Wp.len
 have hlS:=UR.len
 have hlU:=V8.len
 have cP:=cell_of YJ 0
 have cS:=cell_of YJ 1
 have cU:=cell_of YJ 2
 obtain ⟨pa,pc,rfl,-,-⟩:=id Wp
 obtain ⟨sa,sc,rfl,-,-⟩:=id UR
 obtain ⟨ua,uc,rfl,-,-⟩:=id V8
 have Hh:Hid (∀ k:Int,0≤T.Yx k→∃ (i:Nat) (g off:Nat) (x:WU),i<T.ZK.length∧T.Yx k=i∧pa=some ⟨g,off,none⟩∧T.ZK.getD (T.Yx k).toNat ⟨0,[]⟩=x∧∀ w',Below w w w'→w'.cell? ⟨b,0,none⟩=some (.slice (some ⟨g,off,none⟩) T.ZK.length pc)∧w'.cell? ⟨g,off+i*2,none⟩=some (.int .i64 x.num)∧w'.cell? ⟨g,off+i*2+1,none⟩=some (.string (str x.name))∧Below w w w'):=fun k h=>by
  obtain ⟨i,hi,Ic,-,-⟩:=Yh h
  have Ic:T.Yx k=i:=Ic
  obtain ⟨g,off,e1,hc⟩:=L_ Wp Zo
  obtain ⟨d0,d1⟩:=hc i T.ZK[i] (VQ hi)
  have hg:=Hl d0
  refine ⟨i,g,off,T.ZK[i],hi,Ic,e1,by rw [Ic,Xf,Sq,VQ hi];rfl,fun w' h'=>?_⟩
  subst e1
  exact ⟨(h'.cell (p:=⟨b,0,none⟩) hb).trans cP,(h'.cell (p:=⟨g,off+i*2,none⟩) hg).trans d0,(h'.cell (p:=⟨g,off+i*2+1,none⟩) hg).trans d1,h'⟩
 have pH:Hid (∀ k:Int,0≤T.Zq k→∃ (i:Nat) (g off:Nat) (x:XK) (va:Option Addr) (vc:Nat),i<PS.length∧T.Zq k=i∧sa=some ⟨g,off,none⟩∧T.Xb k=x∧∀ w',Below w w w'→w'.cell? ⟨b,1,none⟩=some (.slice (some ⟨g,off,none⟩) PS.length sc)∧w'.cell? ⟨g,off+i*4,none⟩=some (.int .i64 x.num)∧w'.cell? ⟨g,off+i*4+1,none⟩=some (.int .i64 x.own)∧w'.cell? ⟨g,off+i*4+2,none⟩=some (.slice va x.ss.length vc)∧w'.cell? ⟨g,off+i*4+3,none⟩=some (.bool x.ZE)∧Row w' 66 (.slice va x.ss.length vc) x.ss.length (Zb x.ss)∧Below w w w'):=fun k h=>by
  obtain ⟨i,hi,Ic,-,-⟩:=Yh h
  have Ic:T.Zq k=i:=Ic
  have hi':i<PS.length:=by rw [←Vd,UM] at hi;exact hi
  obtain ⟨g,off,e1,hc⟩:=U3 UR Zo
  obtain ⟨d0,d1,d2,d3⟩:=hc i PS[i] (VQ hi')
  have hg:=Hl d0
  have hr:=MR PS[i] (Pw hi')
  obtain ⟨va,vc,hv,-,-⟩:=id hr
  rw [hv] at d2 hr
  refine ⟨i,g,off,PS[i].1,va,vc,hi',Ic,e1,by unfold ZU.Xb;rw [Ic,Xf,←Vd,VC hi'],fun w' h'=>?_⟩
  subst e1
  exact ⟨(h'.cell (p:=⟨b,1,none⟩) hb).trans cS,(h'.cell (p:=⟨g,off+i*4,none⟩) hg).trans d0,(h'.cell (p:=⟨g,off+i*4+1,none⟩) hg).trans d1,(h'.cell (p:=⟨g,off+i*4+2,none⟩) hg).trans d2,(h'.cell (p:=⟨g,off+i*4+3,none⟩) hg).trans d3,hr.fr (Fr.Z9 Lm h') (ZB _) (fun _ _ _ h=>h.elim),h'⟩
 have HUK:Hid (∀ p k:Int,0≤T.Zx p k→∃ (i:Nat) (g off:Nat) (x:WJ),i<T.Z8.length∧T.Zx p k=i∧ua=some ⟨g,off,none⟩∧T.Sl p k=x∧∀ w',Below w w w'→w'.cell? ⟨b,2,none⟩=some (.slice (some ⟨g,off,none⟩) T.Z8.length uc)∧w'.cell? ⟨g,off+i*4,none⟩=some (.int .i64 x.peer)∧w'.cell? ⟨g,off+i*4+1,none⟩=some (.int .i64 x.source)∧w'.cell? ⟨g,off+i*4+2,none⟩=some (.int .i64 x.want)∧w'.cell? ⟨g,off+i*4+3,none⟩=some (.bool x.ZR)∧Below w w w'):=fun p k h=>by
  obtain ⟨i,hi,Ic,-,-⟩:=Yh h
  have Ic:T.Zx p k=i:=Ic
  obtain ⟨g,off,e1,hc⟩:=Td V8 Zo
  obtain ⟨d0,d1,d2,d3⟩:=hc i T.Z8[i] (VQ hi)
  have hg:=Hl d0
  refine ⟨i,g,off,T.Z8[i],hi,Ic,e1,by unfold ZU.Sl;rw [Ic,Xf,PJ hi],fun w' h'=>?_⟩
  subst e1
  exact ⟨(h'.cell (p:=⟨b,2,none⟩) hb).trans cU,(h'.cell (p:=⟨g,off+i*4,none⟩) hg).trans d0,(h'.cell (p:=⟨g,off+i*4+1,none⟩) hg).trans d1,(h'.cell (p:=⟨g,off+i*4+2,none⟩) hg).trans d2,(h'.cell (p:=⟨g,off+i*4+3,none⟩) hg).trans d3,h'⟩
 have HNS:Hid (∀ k,(T.YU k).length≤k∧(T.Vi k).length≤k∧(T.Xw k).length≤k*8):=fun k=>⟨Mp T k,Kv T k,Kw T k⟩
 clear hR YJ X_ Wp UR V8 MR Vd cP cS cU
 generalize T.ZK.length=NP at *
 generalize PS.length=NSr at *
 generalize T.Z8.length=NU at *
 go_enter Tryz.func22,Tryz.ntmps22
 go_wp2
 go_loopw [4] (fun i w'=>∃ k:Nat,k≤8∧i = .int .i64 ((k:Int)+1)∧∃ pv sv uv ms,TG w w' pv sv uv (T.YU k) ms (T.Xw k)∧Hid (ms.map Prod.fst=T.Vi k)) (fun i _=>9-(intOf i).toNat)
 case atStart=>exact ⟨0,Zo,rfl,_,_,_,[],⟨⟨((YG _ _).alloc (ZB _) _).alloc Zi _,(Wm w _ _).2,(Wm w _ _).1⟩,Us _ _ _ _,Us _ _ _ _,fun m hm=>by simp at hm,Us _ _ _ _⟩,rfl⟩
 case round=>
  obtain ⟨k,hk,rfl,pv,sv,uv,ms,MT,I6⟩:=hrel
  have R5:=Zh MT
  have Vr:=MT.tb.size
  have T9:=Zh MT.tb.YI
  clear MT
  by_cases pP:k<8
  ·have CP:=Zh (Uh b T ((k:Int)+1) wr (HR.o _ T9.o))
   have HSP:=Zh (Ns T k)
   have Fq:=(HNS.o k).1
   go_upto_if 18 with (go_at_call 48;(with_reducible refine CP.o.mono ?_);rintro e w1 ⟨rfl,Zj⟩;have OL:=Zh (R5.o.below Zj);clear Zj)
   go_cut [5] (fun _ wx=>∃ pv',TG w wx pv' sv uv (T.YU (k+1)) ms (T.Xw k))
   case first=>
    by_cases h0:0≤T.Yx ((k:Int)+1)
    ·obtain ⟨i,g,off,x,hi,Ic,rfl,hx,LP⟩:=Hh.o _ h0
     have HF:Hid (T.YU (k+1)=T.YU k++[x]):=by show _=_;rw [HSP.o,ZX h0,hx]
     have ZC:=Zh LP
     have TK:=OL.o.tb.YI
     have cp:=OL.o.tb.cells.1
     have fp:=OL.o.tb.frozen 0
     have fG:=World.new_ne w1 _ cp
     have hiI:(i:Int)<(NP:Int):=Gs.2 hi
     have hi0:(0:Int)≤(i:Int):=yF i
     rw [Ic]
     clear LP h0 hx Ic HSP
     generalize T.YU k=G at *
     obtain ⟨xn,xs⟩:=x
     dsimp only at ZC
     have TJ:=OL.o.tb.size
     have HTGW:=OL.o
     have rr0:Below w1 w1 w1:=YG _ _
     go_wp2_with fail
     refine QN ?_
     refine wp_region_held_drew (S:=(fun w'=>w'.cell? ⟨b,0,none⟩=some (.slice (some ⟨g,off,none⟩) NP pc)∧w'.cell? ⟨g,off+i*2,none⟩=some (.int .i64 xn)∧w'.cell? ⟨g,off+i*2+1,none⟩=some (.string (str xs))∧Below w w w')) Zg ?_ (fun _=>?_)
     ·(try dsimp only)
      (first|exact ZC.o _ QK|go_keep)
     refine YA 0 (h:=YA 2 (h:=YA 3 (h:=YA 4 (h:=YA 5 (h:=YA 6 (h:=YA 7 (h:=YA 8 (h:=?_))))))))
     refine wpAnyH_ready (rs:=[1,9]) Zg Zi ?_
     refine AllReadyH.cons (i:=1) rfl (fun K hK=>?_) ?_
     ·go_simp
      refine hK.out _ _ ?_ (fun _=>?_)
      ·(try dsimp only)
       (first|exact ZC.o _ QK|go_keep)
      clear hK K
      try simp only [Z3.pt]
      refine wpAnyH_ready (rs:=[9]) Zg Zi ?_
      refine AllReadyH.cons (i:=9) rfl (fun K hK=>?_) ?_
      ·exact aN
      exact AllReadyH.nil
     refine AllReadyH.cons (i:=9) rfl (fun K hK=>?_) ?_
     ·go_simp
      refine hK.out _ _ ?_ (fun _=>?_)
      ·(try dsimp only)
       (first|exact ZC.o _ QK|go_keep)
      clear hK K
      try simp only [Z3.pt]
      refine wpAnyH_ready (rs:=[1]) Zg Zi ?_
      refine AllReadyH.cons (i:=1) rfl (fun K hK=>?_) ?_
      ·exact aN
      exact AllReadyH.nil
     exact AllReadyH.nil
    ·have HF:Hid (T.YU (k+1)=T.YU k):=by show _=_;rw [HSP.o,Z6 h0,Df]
     have h0d:decide (0≤T.Yx ((k:Int)+1))=false:=WN h0
     go_wp2_with fail
     go_meet
     exact ⟨pv,by rw [HF.o];exact OL.o⟩
   case rest=>
    clear OL R5 HSP CP Hh Vr T9
    obtain ⟨pv,MT⟩:=hcut
    obtain ⟨W2,rfl⟩:∃ W2:World,W2=wc:=⟨_,rfl⟩
    have R5:=Zh MT
    have T9:=Zh MT.tb.YI
    clear MT
    have CS:=Zh (W8 b T ((k:Int)+1) W2 (HR.o _ T9.o))
    have JY:=Zh (Mq T k)
    have hgl2:=(HNS.o k).2.1
    have My:ms.length≤k:=by have h:=congrArg List.length I6.o;rw [UM] at h;omega
    go_upto_if 35 with (go_at_call 49;(with_reducible refine CS.o.mono ?_);rintro e w1 ⟨rfl,Zj⟩;have OL:=Zh (R5.o.below Zj);clear Zj)
    go_cut [6] (fun _ wx=>∃ QB L4,TG w wx pv QB uv (T.YU (k+1)) L4 (T.Xw k)∧L4.map Prod.fst=T.Vi (k+1))
    case first=>
     by_cases h0:0≤T.Zq ((k:Int)+1)
     ·obtain ⟨i,g,off,x,xa,xc,hi,Ic,rfl,hx,LP⟩:=pH.o _ h0
      have HF:Hid (T.Vi (k+1)=T.Vi k++[x]):=by show _=_;rw [JY.o,ZX h0,hx]
      have ZC:Hid (∀ w',Below w w w'→w'.cell? ⟨b,1,none⟩=some (.slice (some ⟨g,off,none⟩) NSr sc)∧w'.cell? ⟨g,off+i*4,none⟩=some (.int .i64 x.num)∧w'.cell? ⟨g,off+i*4+1,none⟩=some (.int .i64 x.own)∧w'.cell? ⟨g,off+i*4+2,none⟩=some (.slice xa x.ss.length xc)∧w'.cell? ⟨g,off+i*4+3,none⟩=some (.bool x.ZE)∧Below w w w'):=fun w' h=>by
       obtain ⟨a1,a2,a3,a4,a5,-,a6⟩:=LP w' h
       exact ⟨a1,a2,a3,a4,a5,a6⟩
      have aj:Hid (∀ w',Below w w w'→Row w' 66 (.slice xa x.ss.length xc) x.ss.length (Zb x.ss)):=fun w' h=>(LP w' h).2.2.2.2.2.1
      have TK:=OL.o.tb.YI
      have cp:=OL.o.tb.cells.2.1
      have fp:=OL.o.tb.frozen 1
      have fG:=World.new_ne w1 _ cp
      have hiI:(i:Int)<(NSr:Int):=Gs.2 hi
      have hi0:(0:Int)≤(i:Int):=yF i
      rw [Ic]
      clear LP h0 hx Ic JY
      obtain ⟨xn,xo,pD,xm⟩:=x
      dsimp only at ZC aj
      have TJ:=OL.o.tb.size
      have HTGW:=OL.o
      have rr0:Below w1 w1 w1:=YG _ _
      go_wp2_with fail
      refine QN ?_
      refine wp_region_held_drew (S:=(fun w'=>w'.cell? ⟨b,1,none⟩=some (.slice (some ⟨g,off,none⟩) NSr sc)∧w'.cell? ⟨g,off+i*4,none⟩=some (.int .i64 xn)∧w'.cell? ⟨g,off+i*4+1,none⟩=some (.int .i64 xo)∧w'.cell? ⟨g,off+i*4+2,none⟩=some (.slice xa pD.length xc)∧w'.cell? ⟨g,off+i*4+3,none⟩=some (.bool xm)∧Below w w w')) Zg ?_ (fun _=>?_)
      ·(try dsimp only)
       (first|exact ZC.o _ QK|go_keep)
      refine YA 0 (h:=YA 2 (h:=YA 3 (h:=YA 4 (h:=YA 5 (h:=YA 6 (h:=YA 7 (h:=YA 8 (h:=?_))))))))
      refine wpAnyH_ready (rs:=[1,9]) Zg Zi ?_
      refine AllReadyH.cons (i:=1) rfl (fun K hK=>?_) ?_
      ·go_simp
       refine hK.out _ _ ?_ (fun _=>?_)
       ·(try dsimp only)
        (first|exact ZC.o _ QK|go_keep)
       clear hK K
       try simp only [Z3.pt]
       refine wpAnyH_ready (rs:=[9]) Zg Zi ?_
       refine AllReadyH.cons (i:=9) rfl (fun K hK=>?_) ?_
       ·exact aL
       exact AllReadyH.nil
      refine AllReadyH.cons (i:=9) rfl (fun K hK=>?_) ?_
      ·go_simp
       refine hK.out _ _ ?_ (fun _=>?_)
       ·(try dsimp only)
        (first|exact ZC.o _ QK|go_keep)
       clear hK K
       try simp only [Z3.pt]
       refine wpAnyH_ready (rs:=[1]) Zg Zi ?_
       refine AllReadyH.cons (i:=1) rfl (fun K hK=>?_) ?_
       ·exact aL
       exact AllReadyH.nil
      exact AllReadyH.nil
     ·have HF:Hid (T.Vi (k+1)=T.Vi k):=by show _=_;rw [JY.o,Z6 h0,Df]
      have h0d:decide (0≤T.Zq ((k:Int)+1))=false:=WN h0
      go_wp2_with fail
      go_meet
      exact ⟨sv,ms,OL.o,by rw [HF.o];exact I6.o⟩
    case rest=>
     clear OL R5 JY CS pH I6 My hgl2
     obtain ⟨sv,ms,MT,Vd⟩:=hcut
     have I6:=Zh Vd
     clear Vd
     obtain ⟨W3,rfl⟩:∃ W3:World,W3=wc:=⟨_,rfl⟩
     have R5:=Zh MT
     have cg:=MT.tb.YI
     clear MT T9
     have CH:=Zh (NA b T ((k:Int)+1) W3 (HR.o _ cg))
     have HLL:(T.ZH ((k:Int)+1)).length≤8:=U8 T _ 8
     have uF:Hid (∀ j,j<(T.ZH ((k:Int)+1)).length→0≤T.Zx ((T.ZH ((k:Int)+1)).getD j 0:Nat) ((k:Int)+1)):=fun j h=>(NQ.1 (LG h)).2.2
     have HTS:=Zh (Mr T k)
     have HUS:Hid (∀ j,j<(T.ZH ((k:Int)+1)).length→T.Vy ((k:Int)+1) ((T.ZH ((k:Int)+1)).take (j+1))=T.Vy ((k:Int)+1) ((T.ZH ((k:Int)+1)).take j)++[T.Sl ((T.ZH ((k:Int)+1)).getD j 0:Nat) ((k:Int)+1)]):=fun j h=>by
      unfold ZU.Vy;rw [IX h,ND];rfl
     have HUL:Hid (∀ j,(T.Vy ((k:Int)+1) ((T.ZH ((k:Int)+1)).take j)).length≤8):=fun j=>by unfold ZU.Vy;rw [UM,TU];omega
     have hul0:=(HNS.o k).2.2
     generalize T.ZH ((k:Int)+1)=L at *
     go_wp2_with fail
     (with_reducible refine CH.o.mono ?_)
     rintro e w1 ⟨⟨lv,rfl,Z7⟩,Zj⟩
     have OL:=Zh (R5.o.below Zj)
     have WS:=Zh Z7
     obtain ⟨la,MZ,rfl,-,-⟩:=id Z7
     clear Zj Z7 CH R5 cg
     go_wp2_with fail
     go_loopw [52] (fun i w'=>∃ j:Nat,j≤L.length∧i = .int .i64 j∧∃ Kz,TG w w' pv sv Kz (T.YU (k+1)) ms (T.Xw k++T.Vy ((k:Int)+1) (L.take j))∧Row w' 3 (.slice la L.length MZ) L.length (ints L)) (fun i _=>L.length-(intOf i).toNat)
     case atStart=>exact ⟨0,Zo,rfl,uv,by rw [List.take_zero];show TG _ _ _ _ _ _ _ (T.Xw k++[]);rw [Df];exact OL.o,WS.o⟩
     case round=>
      clear OL WS
      obtain ⟨j,hj,rfl,Kz,MT,Z7⟩:=hrel
      have R5:=Zh MT
      have WS:=Zh Z7
      have TK:=MT.tb.YI
      clear MT
      by_cases Oh:j<L.length
      ·obtain ⟨gl,vU,bJ,e1,hgl3,YX⟩:=U9 Z7 Zo
       cases e1
       have hc:=YX j Oh
       have HU:=Zh (HUS.o j Oh)
       have hul:=HUL.o j
       obtain ⟨i,g,off,x,hi,Ic,rfl,hx,LP⟩:=HUK.o _ _ (uF.o j Oh)
       have ZC:=Zh LP
       have ca:=fun w1 (h:Below w w w1)=>Xg b T (L.getD j 0:Nat) ((k:Int)+1) w1 (HR.o _ h)
       rw [Ic] at ca
       rw [hx] at HU
       have CA:=Zh ca
       have cp:=R5.o.tb.cells.2.2
       have fp:=R5.o.tb.frozen 2
       have fG:=World.new_ne wr _ cp
       have hiI:(i:Int)<(NU:Int):=Gs.2 hi
       have hi0:(0:Int)≤(i:Int):=yF i
       clear YX Z7 LP Ic hx ca
       generalize L.getD j 0=p at *
       have hlen:(T.Xw k++T.Vy ((k:Int)+1) (L.take j)).length≤90:=by rw [SP];omega
       generalize bW:T.Xw k++T.Vy ((k:Int)+1) (L.take j)=UU at *
       have HUU:=Zh bW
       clear bW
       obtain ⟨xp,xs,xw,xq⟩:=x
       dsimp only at ZC
       have TJ:=R5.o.tb.size
       have HTGW:=R5.o
       go_upto_region 14 with fail
       have Fz:Row wr 3 (.slice (some ⟨gl,vU,none⟩) L.length MZ) L.length (ints L):=WS.o
       have rr0:Below wr wr wr:=YG _ _
       refine QN ?_
       refine wp_region_held_drew (S:=(fun w'=>w'.cell? ⟨b,2,none⟩=some (.slice (some ⟨g,off,none⟩) NU uc)∧w'.cell? ⟨g,off+i*4,none⟩=some (.int .i64 xp)∧w'.cell? ⟨g,off+i*4+1,none⟩=some (.int .i64 xs)∧w'.cell? ⟨g,off+i*4+2,none⟩=some (.int .i64 xw)∧w'.cell? ⟨g,off+i*4+3,none⟩=some (.bool xq)∧Below w w w')) Zg ?_ (fun _=>?_)
       ·(try dsimp only)
        (first|exact ZC.o _ QK|go_keep)
       refine YA 0 (h:=YA 2 (h:=YA 3 (h:=YA 4 (h:=YA 5 (h:=YA 6 (h:=YA 7 (h:=YA 8 (h:=?_))))))))
       refine wpAnyH_ready (rs:=[1,9]) Zg Zi ?_
       refine AllReadyH.cons (i:=1) rfl (fun K hK=>?_) ?_
       ·go_simp
        refine hK.out _ _ ?_ (fun _=>?_)
        ·(try dsimp only)
         (first|exact ZC.o _ QK|go_keep)
        clear hK K
        try simp only [Z3.pt]
        refine wpAnyH_ready (rs:=[9]) Zg Zi ?_
        refine AllReadyH.cons (i:=9) rfl (fun K hK=>?_) ?_
        ·go_simp
         (first|(go_at_call 51;go_split_ands;(with_reducible refine Calls.mono (CA.o _ QK) ?_);rintro e w4 ⟨rfl,TE⟩;have oz:=Below.trans QK (TE.mono (Below.size QK));have Ol:TG w w4 pv sv Kz (T.YU (k+1)) ms UU:=TG.below DK TE;have rr4:Below wr wr w4:=Heap.Below.call QK (ZB _) TE;have c4:=Ol.tb.cells.2.2;have f4:=Ol.tb.frozen 2;have ne4:=World.new_ne w4 _ c4;have BD:=Ol.tb.size)|(go_split_ands;refine Zw Zr (.tmp 57) (.tmp 68) 49 Zr (w.heap.size+2) VZ Kz UU.length (UU.flatMap ZL) Zr ?_ _ 1 (Qg xp xs xw xq) Zr ?_ Zr (S7 ⟨xp,xs,xw,xq⟩) Zo Zo ?_ ?_;(exact TG.su (pv:=pv) (sv:=sv) (P:=T.YU (k+1)) (ms:=ms) (us:=UU) DK);(repeat (first|((with_reducible refine Wa _ _ 1 (Qg xp xs xw xq) Zd _ ?_);rfl)|with_reducible refine Row.drew ?_));(exact Rh (Nat.succ_le_of_lt TJ) (Below.size (B:=wr.heap.size) QK));intro v' w3 HO HG;have jF:Row w3 3 (.slice (some ⟨gl,vU,none⟩) L.length MZ) L.length (ints L):=Row.grown (Row.below Fz QK) (TG.su (w:=w) (pv:=pv) (sv:=sv) (P:=T.YU (k+1)) (ms:=ms) (us:=UU) DK) HG.o Zd;have IY:=TG.NN (w:=w) (pv:=pv) (sv:=sv) (P:=T.YU (k+1)) (ms:=ms) (us:=UU) DK HG;have ou:=IY.YI;have c3:=IY.cells.2.2;have f3:=IY.frozen 2;obtain ⟨va,vc,hv⟩:=Yz HO.o;subst hv))
         go_wp2_with fail
         refine hK.out _ _ ?_ (fun _=>?_)
         ·(try dsimp only)
          (first|exact ZC.o _ QK|go_keep)
         clear hK K
         try simp only [Z3.pt]
         refine YA 10 (h:=YA 11 (h:=?_))
         refine wpAnyH_ready (rs:=[12]) Zg Zi ?_
         refine AllReadyH.cons (i:=12) rfl (fun K hK=>?_) ?_
         ·exact Yx5
         exact AllReadyH.nil
        exact AllReadyH.nil
       refine AllReadyH.cons (i:=9) rfl (fun K hK=>?_) ?_
       ·go_simp
        (first|(go_at_call 51;go_split_ands;(with_reducible refine Calls.mono (CA.o _ QK) ?_);rintro e w4 ⟨rfl,TE⟩;have oz:=Below.trans QK (TE.mono (Below.size QK));have Ol:TG w w4 pv sv Kz (T.YU (k+1)) ms UU:=TG.below DK TE;have rr4:Below wr wr w4:=Heap.Below.call QK (ZB _) TE;have c4:=Ol.tb.cells.2.2;have f4:=Ol.tb.frozen 2;have ne4:=World.new_ne w4 _ c4;have BD:=Ol.tb.size)|(go_split_ands;refine Zw Zr (.tmp 57) (.tmp 68) 49 Zr (w.heap.size+2) VZ Kz UU.length (UU.flatMap ZL) Zr ?_ _ 1 (Qg xp xs xw xq) Zr ?_ Zr (S7 ⟨xp,xs,xw,xq⟩) Zo Zo ?_ ?_;(exact TG.su (pv:=pv) (sv:=sv) (P:=T.YU (k+1)) (ms:=ms) (us:=UU) DK);(repeat (first|((with_reducible refine Wa _ _ 1 (Qg xp xs xw xq) Zd _ ?_);rfl)|with_reducible refine Row.drew ?_));(exact Rh (Nat.succ_le_of_lt TJ) (Below.size (B:=wr.heap.size) QK));intro v' w3 HO HG;have jF:Row w3 3 (.slice (some ⟨gl,vU,none⟩) L.length MZ) L.length (ints L):=Row.grown (Row.below Fz QK) (TG.su (w:=w) (pv:=pv) (sv:=sv) (P:=T.YU (k+1)) (ms:=ms) (us:=UU) DK) HG.o Zd;have IY:=TG.NN (w:=w) (pv:=pv) (sv:=sv) (P:=T.YU (k+1)) (ms:=ms) (us:=UU) DK HG;have ou:=IY.YI;have c3:=IY.cells.2.2;have f3:=IY.frozen 2;obtain ⟨va,vc,hv⟩:=Yz HO.o;subst hv))
        go_wp2_with fail
        refine hK.out _ _ ?_ (fun _=>?_)
        ·(try dsimp only)
         (first|exact ZC.o _ QK|go_keep)
        clear hK K
        try simp only [Z3.pt]
        refine YA 10 (h:=YA 11 (h:=?_))
        refine wpAnyH_ready (rs:=[1,12]) Zg Zi ?_
        refine AllReadyH.cons (i:=1) rfl (fun K hK=>?_) ?_
        ·go_simp
         refine hK.out _ _ ?_ (fun _=>?_)
         ·(try dsimp only)
          (first|exact ZC.o _ QK|go_keep)
         clear hK K
         try simp only [Z3.pt]
         refine wpAnyH_ready (rs:=[12]) Zg Zi ?_
         refine AllReadyH.cons (i:=12) rfl (fun K hK=>?_) ?_
         ·exact Yx5
         exact AllReadyH.nil
        refine AllReadyH.cons (i:=12) rfl (fun K hK=>?_) ?_
        ·go_simp
         refine hK.out _ _ ?_ (fun _=>?_)
         ·(try dsimp only)
          (first|exact ZC.o _ QK|go_keep)
         clear hK K
         try simp only [Z3.pt]
         refine wpAnyH_ready (rs:=[1]) Zg Zi ?_
         refine AllReadyH.cons (i:=1) rfl (fun K hK=>?_) ?_
         ·exact Yx5
         exact AllReadyH.nil
        exact AllReadyH.nil
       exact AllReadyH.nil
      ·have hT:L.take j=L:=I8 Zo
       rw [hT] at R5
       clear hT Z7
       go_wp2
       go_roundw
       case rel=>
        refine ⟨k+1,Zo,Zn,pv,sv,Kz,ms,?_,I6⟩
        rw [HTS.o]
        exact R5.o
       case measure=>simp [intOf];omega
  ·obtain rfl:k=8:=by omega
   have c0:=R5.o.tb.cells
   obtain ⟨Ox,Oy,hp⟩:=Yz R5.o.pe
   obtain ⟨va1,vc1,hs⟩:=Yz R5.o.sr
   obtain ⟨va2,dX,hu⟩:=Yz R5.o.su
   subst hp hs hu
   obtain ⟨c1,c2,c3⟩:=c0
   have Ri:=R5.o.tb.Lv
   have d0:∀ j,j<3→wr.cell? ⟨w,j,none⟩=some (.slice none 0 0)∧wr.frozen? ⟨w,j,none⟩=false:=by
    intro j hj
    have:j=0∨j=1∨j=2:=by omega
    rcases this with rfl|rfl|rfl <;> exact ⟨by simp only [World.cell?,Ri];rfl,by simp [World.frozen?,Ri]⟩
   obtain ⟨d1,e1⟩:=d0 0 Zo
   obtain ⟨d2,e2⟩:=d0 1 Zo
   obtain ⟨d3,e3⟩:=d0 2 Zo
   clear d0 Ri
   have R3:=Zh (kg (v0:= .slice Ox (T.YU 8).length Oy) (v1:= .slice va1 ms.length vc1) (v2:= .slice va2 (T.Xw 8).length dX) d1 d2 d3)
   go_wp2
   obtain ⟨r0,r1,r2⟩:=R3.o
   refine VR (v:= .agg (Qp Ox (T.YU 8).length Oy va1 ms.length vc1 va2 (T.Xw 8).length dX)) (by simp [results,Tryz.results22,go_sem,r0,r1,r2]) rfl ⟨⟨_,_,_,rfl,?_⟩,?_⟩
   ·have hf:Fr wr (· = w.heap.size) wr (((wr.setCell ⟨w,0,none⟩ (.slice Ox (T.YU 8).length Oy)).setCell ⟨w,1,none⟩ (.slice va1 ms.length vc1)).setCell ⟨w,2,none⟩ (.slice va2 (T.Xw 8).length dX)):=(((Fr.refl _ _ _).setAt _ _).setAt _ _).setAt _ _
    exact bh
   ·exact ((R5.o.tb.YI.setCell Zi _).setCell Zi _).setCell Zi _
end Go.Proofs.Rm
namespace Go.Proofs.wQ
section
variable {α κ:Type} (key:α→κ)
def OM (l:List α):Prop:=(l.map key).Nodup
theorem QG {x:α} {l:List α}:OM key (x :: l)↔(∀ y∈l,key y≠key x)∧OM key l:=by
 unfold OM
 rw [List.map_cons,List.nodup_cons]
 constructor
 ·rintro ⟨h1,h2⟩
  exact ⟨fun y hy e=>h1 (by rw [←e];exact List.mem_map_of_mem hy),h2⟩
 ·rintro ⟨h1,h2⟩
  refine ⟨fun h=>?_,h2⟩
  obtain ⟨y,hy,e⟩:=yG.1 h
  exact h1 y hy e
theorem MI {l:List α} (hu:OM key l) (i:Nat):OM key (l.eraseIdx i):=
 List.Nodup.sublist ((List.eraseIdx_sublist l i).map key) hu
theorem Cn {l:List α} (hu:OM key l) {i:Nat} (hi:i<l.length) {y:α} (hy:key y=key l[i]):OM key (l.set i y):=by
 unfold OM at *
 have:(l.set i y).map key=l.map key:=by
  rw [List.map_set,hy]
  have:key l[i]=(l.map key)[i]'(by simpa using hi):=by simp
  rw [this,List.set_getElem_self]
 rw [this];exact hu
end
section
variable {α κ:Type} [DecidableEq κ] (key:α→κ)
def lk (l:List α) (k:κ):Option α:=l.find? fun x=>decide (key x=k)
theorem Sg (x:α) (l:List α) (k:κ):lk key (x :: l) k=if key x=k then some x else lk key l k:=by
 unfold lk
 by_cases h:key x=k <;> simp [h]
theorem KT (l:List α) (x:α) (k:κ):lk key (l++[x]) k=(lk key l k).or (if key x=k then some x else none):=by
 unfold lk
 rw [List.find?_append]
 by_cases h:key x=k <;> simp [h]
theorem Ei {l:List α} {k:κ}:lk key l k=none↔∀ x∈l,key x≠k:=by
 unfold lk
 rw [List.find?_eq_none]
 simp
theorem KU {l:List α} (hu:OM key l) {x:α} (hx:x∈l):lk key l (key x)=some x:=by
 induction l with
 | nil=>cases hx
 | cons y l ih=>
  rw [Sg]
  obtain ⟨h1,h2⟩:=(QG key).1 hu
  rcases KG.1 hx with rfl|hx
  ·rw [ZX rfl]
  ·rw [Z6 (fun e=>h1 x hx e.symm)];exact ih h2 hx
theorem Ow {l:List α} {x:α} (hu:OM key l) (h:lk key l (key x)=none):OM key (l++[x]):=by
 unfold OM at *
 rw [ND,List.nodup_append]
 refine ⟨hu,by simp,?_⟩
 intro a ha b hb e
 obtain ⟨y,hy,rfl⟩:=yG.1 ha
 simp at hb
 subst hb
 exact (Ei key).1 h y hy e
theorem KJ {l:List α} {k:κ} (h:lk key l k=none):l.findIdx? (fun x=>decide (key x=k))=none:=by
 rw [List.findIdx?_eq_none_iff]
 intro x hx
 simpa using (Ei key).1 h x hx
theorem KL {l:List α} {k:κ} {x:α} (h:lk key l k=some x):∃ (i:Nat) (hi:i<l.length),l.findIdx? (fun x=>decide (key x=k))=some i∧l[i]=x:=by
 induction l with
 | nil=>cases h
 | cons y l ih=>
  rw [Sg] at h
  by_cases e:key y=k
  ·rw [ZX e] at h
   cases h
   exact ⟨0,by simp,by simp [List.findIdx?_cons,e],rfl⟩
  ·rw [Z6 e] at h
   obtain ⟨i,hi,h1,h2⟩:=ih h
   exact ⟨i+1,by simpa using hi,by simp [List.findIdx?_cons,e,h1],by simpa using h2⟩
theorem LC:∀ {l:List α},OM key l→∀ {i:Nat} (hi:i<l.length) (k:κ),lk key (l.eraseIdx i) k=if k=key l[i] then none else lk key l k
 | [],_,i,hi,_=>by simp at hi
 | x :: l,hu,0,_,k=>by
  obtain ⟨h1,h2⟩:=(QG key).1 hu
  simp only [List.eraseIdx_cons_zero,List.getElem_cons_zero]
  rw [Sg]
  by_cases e:k=key x
  ·subst e;rw [ZX rfl,Ei];exact h1
  ·rw [Z6 e,Z6 (fun h=>e h.symm)]
 | x :: l,hu,i+1,hi,k=>by
  obtain ⟨h1,h2⟩:=(QG key).1 hu
  simp only [List.eraseIdx_cons_succ,List.getElem_cons_succ]
  rw [Sg,Sg,LC h2 (by simpa using hi) k]
  by_cases e:key x=k
  ·subst e
   rw [ZX rfl,ZX rfl,Z6]
   exact fun e=>h1 _ (Pw (by simpa using hi)) e.symm
  ·rw [Z6 e,Z6 e]
theorem zS:∀ {l:List α},OM key l→∀ {i:Nat} (hi:i<l.length) {y:α},key y=key l[i]→∀ k:κ,lk key (l.set i y) k=if k=key y then some y else lk key l k
 | [],_,i,hi,_,_,_=>by simp at hi
 | x :: l,hu,0,_,y,hy,k=>by
  simp only [List.set_cons_zero,List.getElem_cons_zero] at *
  rw [Sg,Sg,hy]
  by_cases e:key x=k
  ·subst e;rw [ZX rfl,ZX rfl]
  ·rw [Z6 e,Z6 (fun h=>e h.symm),Z6 e]
 | x :: l,hu,i+1,hi,y,hy,k=>by
  obtain ⟨h1,h2⟩:=(QG key).1 hu
  simp only [List.set_cons_succ,List.getElem_cons_succ] at *
  rw [Sg,Sg,zS h2 (by simpa using hi) hy k]
  by_cases e:key x=k
  ·subst e
   rw [ZX rfl,ZX rfl,Z6]
   rw [hy]
   exact fun e=>h1 _ (Pw (by simpa using hi)) e.symm
  ·rw [Z6 e,Z6 e]
end
end Go.Proofs.wQ
namespace Go.Proofs.Rm
open Go.Proofs.N_ (may key)
open Go.Proofs.wQ
def uk (x:WJ):Int × Int:=(x.peer,x.source)
def Wu (R:Room) (n:Int):Bool:=WB n 9 && (R.src n.toNat).there
def QQ (R:Room) (p:Int):WU:=⟨p,R.names p.toNat⟩
def Vh (R:Room) (n:Int):XK:=⟨n,(R.src n.toNat).own,(R.src n.toNat).ss,(R.src n.toNat).ZE⟩
def Vx (R:Room) (p n:Int):WJ:=⟨p,n,(R.sub n.toNat p.toNat).want,(R.sub n.toNat p.toNat).ZR⟩
structure Xi (T:ZU) (R:Room):Prop where
 up:OM WU.num T.ZK
 us:OM XK.num T.Yv
 uu:OM uk T.Z8
 pe:∀ p,lk WU.num T.ZK p=if Zz R p then some (QQ R p) else none
 sr:∀ n,lk XK.num T.Yv n=if Wu R n then some (Vh R n) else none
 su:∀ p n,lk uk T.Z8 (p,n)=if ZH R p n then some (Vx R p n) else none
theorem Iz (n:Int):(fun x:WU=>x.num == n)=fun x=>decide (WU.num x=n):=by funext x;rw [Bool.eq_iff_iff];simp
theorem F8 (n:Int):(fun x:XK=>x.num == n)=fun x=>decide (XK.num x=n):=by funext x;rw [Bool.eq_iff_iff];simp
theorem F9 (p n:Int):(fun x:WJ=>x.peer == p && x.source == n)=fun x=>decide (uk x=(p,n)):=by
 funext x
 rw [Bool.eq_iff_iff]
 simp [uk]
section
variable {T:ZU} {R:Room} (h:Xi T R)
include h
theorem Xi.Mb {p:Int} (hj:Zz R p=true):∃ (i:Nat) (hi:i<T.ZK.length),T.Yx p=i∧T.ZK[i]=QQ R p:=by
 have:=h.pe p
 rw [hj,ZX rfl] at this
 obtain ⟨i,hi,h1,h2⟩:=KL _ this
 exact ⟨i,hi,by unfold ZU.Yx findAt;rw [Iz,h1],h2⟩
theorem Xi.Ma {p:Int} (hj:Zz R p=false):T.Yx p = -1:=by
 have:=h.pe p
 rw [hj,Z6 Zd] at this
 unfold ZU.Yx findAt;rw [Iz,KJ _ this]
theorem Xi.N1 {n:Int} (hj:Wu R n=true):∃ (i:Nat) (hi:i<T.Yv.length),T.Zq n=i∧T.Yv[i]=Vh R n:=by
 have:=h.sr n
 rw [hj,ZX rfl] at this
 obtain ⟨i,hi,h1,h2⟩:=KL _ this
 exact ⟨i,hi,by unfold ZU.Zq findAt;rw [F8,h1],h2⟩
theorem Xi.ED {n:Int} (hj:Wu R n=false):T.Zq n = -1:=by
 have:=h.sr n
 rw [hj,Z6 Zd] at this
 unfold ZU.Zq findAt;rw [F8,KJ _ this]
theorem Xi.Mn {p n:Int} (hj:ZH R p n=true):∃ (i:Nat) (hi:i<T.Z8.length),T.Zx p n=i∧T.Z8[i]=Vx R p n:=by
 have:=h.su p n
 rw [hj,ZX rfl] at this
 obtain ⟨i,hi,h1,h2⟩:=KL _ this
 exact ⟨i,hi,by unfold ZU.Zx findAt;rw [F9,h1],h2⟩
theorem Xi.tP {p n:Int} (hj:ZH R p n=false):T.Zx p n = -1:=by
 have:=h.su p n
 rw [hj,Z6 Zd] at this
 unfold ZU.Zx findAt;rw [F9,KJ _ this]
theorem Xi.Yx (p:Int):0≤T.Yx p↔Zz R p=true:=by
 cases hj:Zz R p
 ·rw [h.Ma hj];simp
 ·obtain ⟨i,_,hi,_⟩:=h.Mb hj;rw [hi];simp
theorem Xi.Zq (n:Int):0≤T.Zq n↔Wu R n=true:=by
 cases hj:Wu R n
 ·rw [h.ED hj];simp
 ·obtain ⟨i,_,hi,_⟩:=h.N1 hj;rw [hi];simp
theorem Xi.Zx (p n:Int):0≤T.Zx p n↔ZH R p n=true:=by
 cases hj:ZH R p n
 ·rw [h.tP hj];simp
 ·obtain ⟨i,_,hi,_⟩:=h.Mn hj;rw [hi];simp
theorem Xi.Xb {n:Int} (hj:Wu R n=true):T.Xb n=Vh R n:=by
 obtain ⟨i,hi,h1,h2⟩:=h.N1 hj
 unfold ZU.Xb;rw [h1,Xf,Sq,VQ hi,h2];rfl
theorem Xi.Sl {p n:Int} (hj:ZH R p n=true):T.Sl p n=Vx R p n:=by
 obtain ⟨i,hi,h1,h2⟩:=h.Mn hj
 unfold ZU.Sl;rw [h1,Xf,Sq,VQ hi,h2];rfl
theorem Xi.owner (n:Int):T.owner n=if Wu R n then (R.src n.toNat).own else 0:=by
 unfold ZU.owner
 cases hj:Wu R n
 ·rw [h.ED hj];simp
 ·have:=(h.Zq n).2 hj
  rw [Z6 Zo,h.Xb hj];simp [Vh]
theorem Xi.LN (n:Int):T.ZH n=Z8 R n:=by
 unfold ZU.ZH ZU.V7 Z8
 have e:(List.range 9)=0 :: (List.range 8).map (· + 1):=by decide
 rw [e,List.filter_cons,Z6 (by unfold ZH WB;simp)]
 apply List.filter_congr
 intro p _
 rw [Bool.eq_iff_iff,decide_eq_true_iff]
 exact h.Zx p n
theorem Xi.Ej {x:XK}:x∈T.Yv↔∃ n,Wu R n=true∧x=Vh R n:=by
 constructor
 ·intro hx
  have h1:=KU XK.num h.us hx
  rw [h.sr] at h1
  cases hj:Wu R x.num
  ·rw [hj] at h1;simp at h1
  ·rw [hj] at h1;simp at h1;exact ⟨_,hj,h1.symm⟩
 ·rintro ⟨n,hn,rfl⟩
  obtain ⟨i,hi,_,h2⟩:=h.N1 hn
  rw [←h2];exact Pw hi
theorem Xi.L3 {x:WU}:x∈T.ZK↔∃ n,Zz R n=true∧x=QQ R n:=by
 constructor
 ·intro hx
  have h1:=KU WU.num h.up hx
  rw [h.pe] at h1
  cases hj:Zz R x.num
  ·rw [hj] at h1;simp at h1
  ·rw [hj] at h1;simp at h1;exact ⟨_,hj,h1.symm⟩
 ·rintro ⟨n,hn,rfl⟩
  obtain ⟨i,hi,_,h2⟩:=h.Mb hn
  rw [←h2];exact Pw hi
theorem Xi.Jz {x:WJ}:x∈T.Z8↔ZH R x.peer x.source=true∧x=Vx R x.peer x.source:=by
 constructor
 ·intro hx
  have h1:=KU uk h.uu hx
  unfold uk at h1
  rw [show (fun x:WJ=>(x.peer,x.source))=uk from rfl] at h1
  rw [h.su] at h1
  cases hj:ZH R x.peer x.source
  ·rw [hj] at h1;simp at h1
  ·rw [hj] at h1;simp at h1;exact ⟨rfl,h1.symm⟩
 ·rintro ⟨hn,hx⟩
  obtain ⟨i,hi,_,h2⟩:=h.Mn hn
  rw [hx,←h2];exact Pw hi
end
theorem V6 {R:Room} {n:Int}:Wu R n=true↔1≤n∧n<9∧(R.src n.toNat).there=true:=by
 unfold Wu;rw [Ui,X7];constructor
 ·rintro ⟨⟨a,b⟩,c⟩;exact ⟨a,b,c⟩
 ·rintro ⟨a,b,c⟩;exact ⟨⟨a,b⟩,c⟩
theorem Tj {R:Room} {p n:Int}:ZH R p n=true↔1≤p∧p<9∧1≤n∧n<9∧(R.sub n.toNat p.toNat).there=true:=by
 unfold ZH;rw [Ui,Ui,X7,X7];constructor
 ·rintro ⟨⟨⟨a,b⟩,c,d⟩,e⟩;exact ⟨a,b,c,d,e⟩
 ·rintro ⟨a,b,c,d,e⟩;exact ⟨⟨⟨a,b⟩,c,d⟩,e⟩
theorem VF {R:Room} {p:Int}:Zz R p=true↔1≤p∧p<9∧R.names p.toNat≠[]:=by
 unfold Zz;rw [Ui,X7]
 constructor
 ·rintro ⟨⟨a,b⟩,c⟩;exact ⟨a,b,by intro e;rw [e] at c;cases c⟩
 ·rintro ⟨a,b,c⟩;exact ⟨⟨a,b⟩,by cases e:R.names p.toNat with|nil=>exact absurd e c|cons _ _=>rfl⟩
theorem Xi.of_eq {T:ZU} {R:Room} (h:Xi T R) (hI:Inv R) (x:Int):T.of x=of R x:=by
 cases ho:(of R x).2.2
 ·have hn:=xW.1 ho
  have h1:T.Su x = -1:=by
   unfold ZU.Su
   apply SR
   intro j hj
   obtain ⟨n,G_,jt⟩:=h.Ej.1 (Pw hj)
   rw [jt,Ls,ne_eq,List.contains_iff_mem]
   obtain ⟨a,b,c⟩:=V6.1 G_
   exact hn n.toNat Zo c
  have h2:of R x=(0,0,false):=by
   have:∀ k n,(SH R x k n).2.2=false→SH R x k n=(0,0,false):=by
    intro k
    induction k with
    | zero=>intro n _;rfl
    | succ k ih=>
     intro n hh
     unfold SH at hh ⊢
     split at hh
     ·cases hh
     ·rename_i hc;rw [Z6 hc];exact ih _ hh
   exact this 9 0 ho
  unfold ZU.of
  rw [h1,ZX Zd,h2]
 ·obtain ⟨m,hm,ht,hx,he⟩:=Ra ho
  obtain ⟨Az,_⟩:=hI.Zq m ht
  have hs:Wu R (m:Int)=true:=V6.2 ⟨Zo,Zo,by rw [Xf];exact ht⟩
  obtain ⟨i,hi,h1,h2⟩:=h.N1 hs
  have hge:0≤T.Su x:=by
   unfold ZU.Su;rw [O9]
   exact ⟨T.Yv[i],Pw hi,by rw [h2,List.contains_iff_mem];unfold Vh;rw [Xf];exact hx⟩
  obtain ⟨k,hk,SL,hp,_⟩:=Yh hge
  have SL:T.Su x=k:=SL
  obtain ⟨n,G_,jt⟩:=h.Ej.1 (Pw hk)
  rw [jt,List.contains_iff_mem] at hp
  obtain ⟨a,b,c⟩:=V6.1 G_
  have Vz:=hI.apart n.toNat m x c ht hp hx
  have Vz:n=(m:Int):=by omega
  unfold ZU.of
  rw [Z6 Zo,SL,Xf,Sq,VQ hk,Option.getD_some,jt,Vz,he]
  unfold Vh;rw [Xf]
theorem Xi.tV {T:ZU} {R:Room} (h:Xi T R) (hI:Inv R) (l:List Int):T.Wb l=Wb R l:=by
 funext i
 unfold ZU.Wb Wb
 rw [h.of_eq hI,Bool.or_comm]
theorem Iq (s:XK) (q:Int):QX s q=true↔0≤q∧q<s.ss.length:=by unfold QX;simp
theorem Xi.Db {T:ZU} {R:Room} (h:Xi T R) (hI:Inv R) (o:Op):T.Yo o=Yo R o:=by
 unfold ZU.Yo Yo
 by_cases k1:o.kind<2∨12<o.kind
 ·rw [ZX k1,ZX k1]
 rw [Z6 k1,Z6 k1]
 by_cases p1:o.peer<1∨8<o.peer
 ·rw [ZX p1,ZX (show ((!WB o.peer 9)=true) by unfold WB;simp;omega)]
 have hp:WB o.peer 9=true:=(X7 _ _).2 Zo
 rw [Z6 p1,Z6 (show ¬((!WB o.peer 9)=true) by rw [hp];simp)]
 by_cases k2:o.kind=2
 ·rw [ZX k2,ZX k2]
  unfold Nl
  cases hj:Zz R o.peer
  ·rw [h.Ma hj,Z6 (show ¬(0:Int) ≤ -1 by decide),Z6 (show ¬(false=true) by decide)]
   by_cases hm:may o.name=true
   ·have e:(T.ZK.any fun x=>decide (key x.name=key o.name))=(List.range 9).any (sameKey R o):=by
     rw [Bool.eq_iff_iff,List.any_eq_true,List.any_eq_true]
     constructor
     ·rintro ⟨x,hx,hk⟩
      obtain ⟨n,hn,rfl⟩:=h.L3.1 hx
      obtain ⟨a,b,c⟩:=VF.1 hn
      refine ⟨n.toNat,by rw [List.mem_range];omega,?_⟩
      unfold sameKey
      rw [Ui]
      refine ⟨?_,hk⟩
      cases e:R.names n.toNat with
      | nil=>exact absurd e c
      | cons _ _=>rfl
     ·rintro ⟨n,hn,hk⟩
      unfold sameKey at hk
      rw [Ui] at hk
      have Xh:R.names n≠[]:=by intro e;rw [e] at hk;exact absurd hk.1 Zd
      rw [List.mem_range] at hn
      have h0:n≠0:=by rintro rfl;exact Xh hI.Q_.1
      exact ⟨QQ R n,h.L3.2 ⟨n,VF.2 ⟨Zo,Zo,by rw [Xf];exact Xh⟩,rfl⟩,by unfold QQ;rw [Xf];exact hk.2⟩
    rw [Z6 (show ¬((!may o.name)=true) by rw [hm];simp),Z6 (show ¬((!may o.name)=true) by rw [hm];simp),e]
   ·rw [Bool.not_eq_true] at hm
    rw [ZX (show ((!may o.name)=true) by rw [hm];rfl),ZX (show ((!may o.name)=true) by rw [hm];rfl)]
  ·rw [ZX ((h.Yx _).2 hj),ZX rfl]
 rw [Z6 k2,Z6 k2]
 cases hj:Zz R o.peer
 ·rw [h.Ma hj,ZX Zd,ZX Zd]
 have:=(h.Yx o.peer).2 hj
 rw [Z6 (show ¬T.Yx o.peer<0 by omega),Z6 (show ¬((!true)=true) by decide)]
 by_cases k3:o.kind=3
 ·rw [ZX k3,ZX k3]
 rw [Z6 k3,Z6 k3]
 by_cases s1:o.source<1∨8<o.source
 ·rw [ZX s1,ZX (show ((!WB o.source 9)=true) by unfold WB;simp;omega)]
 have hs:WB o.source 9=true:=(X7 _ _).2 Zo
 rw [Z6 s1,Z6 (show ¬((!WB o.source 9)=true) by rw [hs];simp)]
 have Ie:Wu R o.source=(R.src o.source.toNat).there:=by unfold Wu;rw [hs];rfl
 by_cases k4:o.kind=4
 ·rw [ZX k4,ZX k4]
  unfold ZU.Uq Wv
  have e1:(0≤T.Zq o.source)=((R.src o.source.toNat).there=true):=by rw [←Ie];exact propext (h.Zq _)
  simp only [e1,h.tV hI]
 rw [Z6 k4,Z6 k4]
 cases ht:(R.src o.source.toNat).there
 ·rw [ht] at Ie
  rw [h.ED Ie,ZX Zd,ZX Zd]
 rw [ht] at Ie
 have:=(h.Zq o.source).2 Ie
 rw [Z6 Zo,Z6 Zd,h.Xb Ie]
 have hh:ZH R o.peer o.source=(R.sub o.source.toNat o.peer.toNat).there:=by unfold ZH;rw [hp,hs];rfl
 unfold ZU.XL about
 have o1:(Vh R o.source).own=(R.src o.source.toNat).own:=rfl
 have o2:(Vh R o.source).ZE=(R.src o.source.toNat).ZE:=rfl
 simp only [o1,o2]
 by_cases k5:o.kind=5∨o.kind=8∨o.kind=9
 ·rw [ZX k5,ZX k5];first|done|rfl
 rw [Z6 k5,Z6 k5]
 have bN:Zu R o=if QX (Vh R o.source) o.Zu=true then 0 else 5:=by
  unfold Zu
  by_cases hl:o.Zu<0∨((R.src o.source.toNat).ss.length:Int)≤o.Zu
  ·rw [ZX hl,Z6 (by rw [Iq];unfold Vh;dsimp only;omega)]
  ·rw [Z6 hl,ZX (by rw [Iq];unfold Vh;dsimp only;omega)]
 by_cases k6:o.kind=6
 ·rw [ZX k6,ZX k6]
  have e2:(0≤T.Zx o.peer o.source)=((R.sub o.source.toNat o.peer.toNat).there=true):=by rw [←hh];exact propext (h.Zx _ _)
  simp only [e2,bN]
 rw [Z6 k6,Z6 k6]
 unfold heard
 dsimp only
 cases AB:(R.sub o.source.toNat o.peer.toNat).there
 ·rw [AB] at hh
  rw [h.tP hh,ZX Zd,ZX Zd]
 rw [AB] at hh
 have:=(h.Zx o.peer o.source).2 hh
 rw [Z6 (show ¬T.Zx o.peer o.source<0 by omega),Z6 (show ¬((!true)=true) by decide),h.Sl hh,bN]
 dsimp only [Vx]
 by_cases k10:o.kind=10
 ·by_cases hp:(R.sub o.source.toNat o.peer.toNat).ZR=true <;> simp [k10,hp]
 by_cases k11:o.kind=11
 ·by_cases hp:(R.sub o.source.toNat o.peer.toNat).ZR=true <;> simp [k11,hp]
 by_cases k12:o.kind=12
 ·cases hl:QX (Vh R o.source) o.Zu <;> simp [k12]
 ·simp [k10,k11,k12]
theorem K7 (R:Room) {n p:Nat} (hn:1≤n∧n<9) (hp:1≤p∧p<9) (x:Sub) (q m:Int) :
  (if ZH (R.ZZ n p x) q m then some (Vx (R.ZZ n p x) q m) else none)=if (q,m)=((p:Int),(n:Int)) then (if x.there then some (⟨p,n,x.want,x.ZR⟩:WJ) else none) else (if ZH R q m then some (Vx R q m) else none):=by
 by_cases e:(q,m)=((p:Int),(n:Int))
 ·cases e
  rw [ZX rfl]
  have h1:ZH (R.ZZ n p x) p n=x.there:=by
   unfold ZH;rw [Xf,Xf,WM,(X7 _ _).2 Zo,(X7 _ _).2 Zo];rfl
  have h2:Vx (R.ZZ n p x) p n=⟨p,n,x.want,x.ZR⟩:=by unfold Vx;rw [Xf,Xf,WM]
  rw [h1,h2]
 ·rw [Z6 e]
  by_cases hi:WB q 9=true∧WB m 9=true
  ·have hq:=(X7 _ _).1 hi.1
   have hm:=(X7 _ _).1 hi.2
   have hs:(R.ZZ n p x).sub m.toNat q.toNat=R.sub m.toNat q.toNat:=by
    rw [Wq,Z6]
    rintro ⟨h1,h2⟩
    apply e
    rw [Prod.mk.injEq];omega
   unfold ZH Vx
   rw [hs]
  ·have hf:∀ R':Room,ZH R' q m=false:=fun R'=>by
    rw [Ls,ne_eq,Tj]
    rintro ⟨a,b,c,d,_⟩
    exact hi ⟨(X7 _ _).2 ⟨a,b⟩,(X7 _ _).2 ⟨c,d⟩⟩
   rw [hf,hf];rfl
theorem K5 (R:Room) {n:Nat} (hn:1≤n∧n<9) (s:Src) (m:Int) :
  (if Wu (R.Zt n s) m then some (Vh (R.Zt n s) m) else none)=if m=(n:Int) then (if s.there then some (⟨n,s.own,s.ss,s.ZE⟩:XK) else none) else (if Wu R m then some (Vh R m) else none):=by
 by_cases e:m=(n:Int)
 ·cases e
  rw [ZX rfl]
  have h0:(R.Zt n s).src n=s:=by rw [Xa,ZX rfl]
  have h1:Wu (R.Zt n s) n=s.there:=by unfold Wu;rw [Xf,h0,(X7 _ _).2 Zo];rfl
  have h2:Vh (R.Zt n s) n=⟨n,s.own,s.ss,s.ZE⟩:=by unfold Vh;rw [Xf,h0]
  rw [h1,h2]
 ·rw [Z6 e]
  by_cases hi:WB m 9=true
  ·have hm:=(X7 _ _).1 hi
   have hs:(R.Zt n s).src m.toNat=R.src m.toNat:=by rw [Xa,Z6 Zo]
   unfold Wu Vh;rw [hs]
  ·have hf:∀ R':Room,Wu R' m=false:=fun R'=>by unfold Wu;rw [Ls,ne_eq,Ui];exact fun h=>hi h.1
   rw [hf,hf];rfl
theorem Iy (R:Room) {p:Nat} (hp:1≤p∧p<9) (s:List UInt8) (q:Int) :
  (if Zz (R.setName p s) q then some (QQ (R.setName p s) q) else none)=if q=(p:Int) then (if s≠[] then some (⟨p,s⟩:WU) else none) else (if Zz R q then some (QQ R q) else none):=by
 by_cases e:q=(p:Int)
 ·cases e
  rw [ZX rfl]
  have h0:(R.setName p s).names p=s:=by rw [Ym,ZX rfl]
  have h2:QQ (R.setName p s) p=⟨p,s⟩:=by unfold QQ;rw [Xf,h0]
  rw [h2]
  by_cases hs:s=[]
  ·rw [Z6 (by rw [VF,Xf,h0];rintro ⟨_,_,h⟩;exact h hs),Z6 (fun h=>h hs)]
  ·rw [ZX (by rw [VF,Xf,h0];exact ⟨Zo,Zo,hs⟩),ZX hs]
 ·rw [Z6 e]
  by_cases hi:WB q 9=true
  ·have hm:=(X7 _ _).1 hi
   have hs:(R.setName p s).names q.toNat=R.names q.toNat:=by rw [Ym,Z6 Zo]
   unfold Zz QQ;rw [hs]
  ·have hf:∀ R':Room,Zz R' q=false:=fun R'=>by unfold Zz;rw [Ls,ne_eq,Ui];exact fun h=>hi h.1
   rw [hf,hf];rfl
section
variable {T:ZU} {R:Room} (h:Xi T R)
include h
theorem Xi.Xk {p n:Nat} (hh:ZH R p n=true):Xi (T.Xk p n) (R.ZZ n p VJ):=by
 obtain ⟨i,hi,h1,h2⟩:=h.Mn hh
 obtain ⟨a,b,c,d,_⟩:=Tj.1 hh
 have he:(T.Xk p n).Z8=T.Z8.eraseIdx i:=by unfold ZU.Xk;rw [h1,Xf]
 refine ⟨h.up,h.us,by rw [he];exact MI _ h.uu i,h.pe,h.sr,fun q m=>?_⟩
 rw [he,LC uk h.uu hi,K7 R Zo Zo,h2,h.su]
 rfl
theorem Xi.ZZ {p n:Nat} (hh:ZH R p n=true) (x:Sub) (hx:x.there=true):Xi (T.ZZ p n ⟨p,n,x.want,x.ZR⟩) (R.ZZ n p x):=by
 obtain ⟨i,hi,h1,h2⟩:=h.Mn hh
 obtain ⟨a,b,c,d,_⟩:=Tj.1 hh
 have he:(T.ZZ p n ⟨p,n,x.want,x.ZR⟩).Z8=T.Z8.set i ⟨p,n,x.want,x.ZR⟩:=by unfold ZU.ZZ;rw [h1,Xf]
 have hk:uk ⟨p,n,x.want,x.ZR⟩=uk T.Z8[i]:=by rw [h2];rfl
 refine ⟨h.up,h.us,by rw [he];exact Cn _ h.uu hi hk,h.pe,h.sr,fun q m=>?_⟩
 rw [he,zS uk h.uu hi hk,K7 R Zo Zo,h.su,hx]
 rfl
theorem Xi.Wz {p n:Nat} (hn:1≤n∧n<9) (hp:1≤p∧p<9) (hh:ZH R p n=false) (x:Sub) (hx:x.there=true):Xi (T.Wz ⟨p,n,x.want,x.ZR⟩) (R.ZZ n p x):=by
 have hl:lk uk T.Z8 ((p:Int),(n:Int))=none:=by rw [h.su,hh];rfl
 refine ⟨h.up,h.us,Ow uk h.uu hl,h.pe,h.sr,fun q m=>?_⟩
 show lk uk (T.Z8++[_]) _=_
 rw [KT,K7 R hn hp,hx]
 by_cases e:(q,m)=((p:Int),(n:Int))
 ·rw [e,hl,ZX rfl,ZX rfl,show uk ⟨p,n,x.want,x.ZR⟩=((p:Int),(n:Int)) from rfl,ZX rfl];rfl
 ·rw [Z6 e,Z6 (fun e'=>e e'.symm),h.su]
  cases ZH R q m <;> rfl
theorem Xi.UT {n:Nat} (hh:Wu R n=true):Xi (T.UT n) (R.Zt n UT):=by
 obtain ⟨i,hi,h1,h2⟩:=h.N1 hh
 obtain ⟨a,b,_⟩:=V6.1 hh
 have he:(T.UT n).Yv=T.Yv.eraseIdx i:=by unfold ZU.UT;rw [h1,Xf]
 refine ⟨h.up,by rw [he];exact MI _ h.us i,h.uu,h.pe,fun m=>?_,h.su⟩
 rw [he,LC _ h.us hi,K5 R Zo,h2,h.sr]
 rfl
theorem Xi.ZN {n:Nat} (hh:Wu R n=true) (on:Bool):Xi (T.ZN n on) (R.Zt n {R.src n with ZE:=on}):=by
 obtain ⟨i,hi,h1,h2⟩:=h.N1 hh
 obtain ⟨a,b,ht⟩:=V6.1 hh
 rw [Xf] at ht
 have he:(T.ZN n on).Yv=T.Yv.set i ⟨n,(R.src n).own,(R.src n).ss,on⟩:=by
  unfold ZU.ZN;rw [h1,Xf,h.Xb hh];rfl
 have hk:XK.num ⟨n,(R.src n).own,(R.src n).ss,on⟩=XK.num T.Yv[i]:=by rw [h2];rfl
 refine ⟨h.up,by rw [he];exact Cn _ h.us hi hk,h.uu,h.pe,fun m=>?_,h.su⟩
 rw [he,zS _ h.us hi hk,K5 R Zo,h.sr]
 dsimp only
 rw [ht]
 rfl
theorem Xi.O4 {n:Nat} (hn:1≤n∧n<9) (hh:Wu R n=false) (s:Src) (hs:s.there=true):Xi (T.O4 ⟨n,s.own,s.ss,s.ZE⟩) (R.Zt n s):=by
 have hl:lk XK.num T.Yv (n:Int)=none:=by rw [h.sr,hh];rfl
 refine ⟨h.up,Ow _ h.us hl,h.uu,h.pe,fun m=>?_,h.su⟩
 show lk XK.num (T.Yv++[_]) _=_
 rw [KT,K5 R hn,hs]
 by_cases e:m=(n:Int)
 ·rw [e,hl,ZX rfl,ZX rfl];rfl
 ·rw [Z6 e,Z6 (fun e'=>e e'.symm),h.sr]
  cases Wu R m <;> rfl
theorem Xi.R_ {p:Nat} (hp:1≤p∧p<9) (hh:Zz R p=false) (s:List UInt8) (hs:s≠[]):Xi (T.R_ ⟨p,s⟩) (R.setName p s):=by
 have hl:lk WU.num T.ZK (p:Int)=none:=by rw [h.pe,hh];rfl
 refine ⟨Ow _ h.up hl,h.us,h.uu,fun m=>?_,h.sr,h.su⟩
 show lk WU.num (T.ZK++[_]) _=_
 rw [KT,Iy R hp,ZX hs]
 by_cases e:m=(p:Int)
 ·rw [e,hl,ZX rfl,ZX rfl];rfl
 ·rw [Z6 e,Z6 (fun e'=>e e'.symm),h.pe]
  cases Zz R m <;> rfl
theorem Xi.Po {p:Nat} (hh:Zz R p=true):Xi (T.Po p) (R.setName p []):=by
 obtain ⟨i,hi,h1,h2⟩:=h.Mb hh
 obtain ⟨a,b,_⟩:=VF.1 hh
 have he:(T.Po p).ZK=T.ZK.eraseIdx i:=by unfold ZU.Po;rw [h1,Xf]
 refine ⟨by rw [he];exact MI _ h.up i,h.us,h.uu,fun m=>?_,h.sr,h.su⟩
 rw [he,LC _ h.up hi,Iy R Zo,h2,h.pe,Z6 (fun h=>h rfl:¬([]:List UInt8)≠[])]
 rfl
end
theorem Xi.XY (n:Nat):∀ (l:List Nat) {T:ZU} {R:Room},Xi T R→l.Nodup→(∀ p∈l,ZH R p n=true)→(ZU.XY n l T).1=(XN n l R).1∧Xi (ZU.XY n l T).2 (XN n l R).2
 | [],T,R,h,_,_=>⟨rfl,h⟩
 | p :: l,T,R,h,hd,hl=>by
  rw [List.nodup_cons] at hd
  have h1:=Xi.XY n l (h.Xk (hl p (List.mem_cons_self ..))) hd.2 (fun q hq=>by
   have h2:=hl q (List.mem_cons_of_mem _ hq)
   rw [Vq] at h2 ⊢
   refine ⟨h2.1,h2.2.1,h2.2.2.1,h2.2.2.2.1,?_⟩
   rw [Wq,Z6]
   ·exact h2.2.2.2.2
   ·rintro ⟨_,e⟩;exact hd.1 (by rw [←e];exact hq))
  unfold ZU.XY XN
  exact ⟨by dsimp only;rw [h1.1],h1.2⟩
theorem Xi.gone {T:ZU} {R:Room} (h:Xi T R) {n:Nat} (hh:Wu R n=true):(T.YD n).1=(gone R n).1∧Xi (T.YD n).2 (gone R n).2:=by
 have ju:(Z8 R n).Nodup:=by rw [←h.LN];exact Kc T n
 have h1:=Xi.XY n (Z8 R n) h ju (fun p hp=>(lq.1 hp).2)
 unfold ZU.YD Rm.gone
 rw [h.LN]
 refine ⟨h1.1,h1.2.UT ?_⟩
 rw [V6] at hh ⊢
 rw [MK];exact hh
end Go.Proofs.Rm
