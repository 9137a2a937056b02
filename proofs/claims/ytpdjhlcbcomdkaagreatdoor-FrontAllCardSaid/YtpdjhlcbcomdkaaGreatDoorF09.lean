/- Part of a proof. -/
import Derived.Test.YtpdjhlcbcomdkaaGreatDoorChecked
import Derived.Test.YtpdjhlcbcomdkaaGreatDoorShelf
import Derived.Test.YtpdjhlcbcomdkaaGreatDoorF08
set_option linter.unusedVariables false
set_option linter.unusedSimpArgs false
set_option maxRecDepth 100000
set_option maxHeartbeats 16000000
open Go Go.Q Go.Qr
namespace Go.Proofs.N_
open Go.RowKit Go.Lib Go.Proofs.Mem
theorem Tg (w:World) (s:ByteArray) (p:Nat):Below w w (w.iter s p):=(YG _ _).alloc (ZB _) _
theorem JC {a b:ByteArray} (h:a=b):Ending.returned (.string a) = .returned (.string b):=by rw [h]
theorem YB {a b:Bool} (h:a=b):Ending.returned (.bool a) = .returned (.bool b):=by rw [h]
theorem Y5 {k:IntKind} {a b:Int} (h:a=b):Ending.returned (.int k a) = .returned (.int k b):=by rw [h]
theorem K2 (s:ByteArray) (k:Nat) (h:cutAt s.data.toList k<s.size):k<(rn s.data.toList).length∧cutAt s.data.toList (k+1)=cutAt s.data.toList k+(Utf8.decode s (cutAt s.data.toList k)).2∧k≤cutAt s.data.toList k∧(rn s.data.toList)[k]?=some (Utf8.decode s (cutAt s.data.toList k)):=by
 exact aD
theorem Eo (s:ByteArray) (k:Nat) (h:¬cutAt s.data.toList k<s.size):(rn s.data.toList).length≤k:=by
 have hl:s.data.toList.length=s.size:=(Lib.size_eq s).symm
 have:=Lz s.data.toList k
 omega
theorem Lu {p:Nat × Nat→Bool} {R:List (Nat × Nat)} {k:Nat} {x:Nat × Nat} (h:(R.take k).all p=true) (hk:R[k]?=some x) (hx:p x=true):(R.take (k+1)).all p=true:=by
 rw [List.take_add_one,hk,List.all_append,h];simp [hx]
theorem DR {p:Nat × Nat→Bool} {R:List (Nat × Nat)} {k:Nat} {x:Nat × Nat} (hk:R[k]?=some x) (hx:p x=false):R.all p=false:=by
 rw [Ls];intro h
 have:=List.all_eq_true.1 h x (List.mem_of_getElem? hk)
 rw [hx] at this;cases this
theorem w_ (s:ByteArray) (w:World) (hs:s.size<9223372036854775807) :
  Calls Tryz.prog 161 #[.string s] w (fun e w'=>e = .returned (.bool (may s.data.toList))∧Below w w w'):=by
 exact Yx14
theorem pd (r:Nat):JB r=true↔33≤r∧(r<127∨159<r)∧r≠65533:=by
 unfold JB;simp;omega
theorem qI (r:Int) (w:World) (h0:0≤r) (h1:r≤1114111) :
  Calls Tryz.prog 150 #[.int .i32 r] w (fun e w'=>e = .returned (.bool (JB r.toNat))∧w=w'):=by
 exact Yx31
theorem rF (s:ByteArray) (n:Nat):s.extract n s.size=str (s.data.toList.drop n):=by
 apply ByteArray.ext
 apply Array.toList_inj.1
 rw [Lib.extract_to_end];rfl
theorem Bc (s:ByteArray) (at':Nat) (h:at'<s.size):decodeGo (s.extract at' s.size)=Utf8.decode s at':=by
 rw [rF,←decodeL_drop]
 unfold decodeGo
 rw [Z6 (by rw [Ou,RU,←Lib.size_eq];omega)]
 rfl
abbrev Xe (w:World):Prop:=Utf8Tabs 0 1 w
theorem pV (s:ByteArray) (at':Nat) (w:World) (h:at'<s.size) (hT:Xe w) :
  Calls Tryz.prog 149 #[.string (s.extract at' s.size)] w (fun e w'=>e = .returned (.tuple #[.int .i32 (Utf8.decode s at').1,.int .i64 (Utf8.decode s at').2])∧Below w w w'):=by
 have:=Tryz.utf8_DecodeRuneInString (s.extract at' s.size) w hT
 rw [Bc s at' h] at this
 exact this
theorem zD (s:ByteArray) (w:World) (hs:s.size<9223372036854775807) (hT:Xe w) :
  Calls Tryz.prog 148 #[.string s] w (fun e w'=>e = .returned (.int .i64 (runes s.data.toList))∧Below w w w'):=by
 exact Yx17
theorem B_ (s:ByteArray) (w:World) (hs:s.size<9223372036854775807) (hT:Xe w) :
  Calls Tryz.prog 120 #[.string s] w (fun e w'=>e = .returned (.bool (may s.data.toList))∧Below w w w'):=by
 exact Yx11
/-! Keys -/
theorem qG (r:Int) (w:World) (h0:0≤r) (h1:r≤1114111) :
  Calls Tryz.prog 178 #[.int .i32 r] w (fun e w'=>e = .returned (.int .i32 (OS r))∧w=w'):=by
 exact Yx47
theorem m_ (s:ByteArray) (w:World) (hs:s.size<9223372036854775807) (hT:Xe w) :
  Calls Tryz.prog 162 #[.string s] w (fun e w'=>e = .returned (.string (str (key s.data.toList)))∧Below w w w'):=by
 exact Yx22
theorem FJ (l:List UInt8) (k:Nat) (h:k<l.length):((l.take k).map low++l.drop k).getD k 0=l.getD k 0:=by
 rw [Sq,bz VB,UM,TU,List.getElem?_drop,Sq]
 congr 2;omega
theorem zu (l:List UInt8) (k:Nat) (h:k<l.length):((l.take k).map low++l.drop k).set k (low (l.getD k 0))=(l.take (k+1)).map low++l.drop (k+1):=by
 exact Yx93
theorem jZ (b:UInt8) (h1:65≤b.toNat) (h2:b.toNat≤90):(low b).toNat=b.toNat+32:=by rw [RV];unfold Uy;rw [ZX ⟨h1,h2⟩]
theorem jY (b:UInt8) (h:¬(65≤b.toNat∧b.toNat≤90)):low b=b:=by unfold low;rw [Z6 h]
theorem dS (l:List UInt8) (k:Nat) (h:k<l.length) (x:UInt8) (hx:x=l.getD k 0):l.set k x=l:=by
 subst hx;rw [Sq,VQ h];exact List.set_getElem_self h
theorem tC (s:ByteArray) (w:World) (hs:s.size<9223372036854775807) (hT:Xe w) :
  Calls Tryz.prog 121 #[.string s] w (fun e w'=>e = .returned (.string (str (key s.data.toList)))∧Below w w w'):=by
 exact Yx12
end Go.Proofs.N_
namespace Go.Proofs.Rm
open Go.RowKit Go.Proofs.Heap Go.Proofs.Mem
open Go.Proofs.N_ (may key Xe)
def UA (R:Room):Array Value:=((List.range 9).map fun j=>Value.string (str (R.names j))).toArray
theorem Nn (R:Room):(UA R).size=9:=by simp [UA]
theorem Ks (R:Room) (j:Nat) (h:j<9):(UA R)[j]?=some (.string (str (R.names j))):=by simp [UA,h]
theorem vP (b:Nat) (R:Room) (o:Op) (sa ba:Option Addr) (sl sc bl bc:Nat) (w:World) (hR:Z4 w b R) (hp:1≤o.peer∧o.peer<9) (hT:Xe w) (Vz:o.name.length<9223372036854775807) (bU:∀ p,(R.names p).length<9223372036854775807) :
  Calls Tryz.prog 133 (Qf (some ⟨b,0,none⟩) (Ji o sa sl sc ba bl bc)) w fun e w'=>e = .returned (.int .i64 (Nl R o))∧Below w w w':=by
 have CJ:=Zh (fun (w1:World) (h:Below w w w1)=>U6 b R o.peer w1 (hR.below h))
 obtain ⟨kd,p,n,q,nm,ss⟩:=o
 have hb:=hR.lt
 have HJ:Hid (Nl R ⟨kd,p,n,q,nm,ss⟩=if Zz R p then 9 else if !may nm then 12 else if (List.range 9).any (sameKey R ⟨kd,p,n,q,nm,ss⟩) then 9 else 0):=rfl
 have CM:Hid (∀ w1,Calls Tryz.prog 161 #[.string (str nm)] w1 fun e w'=>e = .returned (.bool (may nm))∧Below w1 w1 w'):=fun w1=>N_.w_ (str nm) w1 (by rw [Ou];exact Vz)
 have CK:Hid (∀ (s:List UInt8) w1,s.length<9223372036854775807→Below w w w1→Calls Tryz.prog 162 #[.string (str s)] w1 fun e w'=>e = .returned (.string (str (key s)))∧Below w1 w1 w'):=fun s w1 hs h=>N_.m_ (str s) w1 (by rw [Ou];exact hs) (Utf8Tabs_below hT h)
 dsimp only at *
 have SK:∀ j,j<(UA R).size→w.cell? ⟨b,0+j,none⟩=(UA R)[j]?:=by
  intro j hj
  rw [Nn] at hj
  rw [OD,hR.BS hj,Ks R j hj]
 have UQ:(Tryz.prog.info? 143).map (·.size)=some (UA R).size:=by rw [Nn];kernel_rfl
 have HP:Hid (∀ n:Nat,n<9→∀ w,(Instr.index 143 (.agg (UA R)) (.int .i64 (n:Int))).run Tryz.prog w = .ok (.string (str (R.names n))) w):=
  fun n hn w=>yC.IK w 143 9 9 (UA R) n _ Tryz.underlying143 hn Tryz.underlying9 rfl Zg _ (Ks R n hn)
 have fV:=Zh SK
 have HNL:=Zh bU
 have jw:=Vz
 clear hR SK bU Vz
 generalize UA R=CS at *
 generalize Nl R ⟨kd,p,n,q,nm,ss⟩=jn at *
 cases hj:Zz R p
 ·cases hm:may nm
  ·have HF:Hid (jn=12):=by show _=_;rw [HJ.o,hj,hm];rfl
   rw [hj] at CJ
   rw [hm] at CM
   clear hj hm HJ
   go_enter Tryz.func133,Tryz.ntmps133
   go_wp2_with (first|(go_at_call 80;refine (CJ.o _ (Z' _ _)).mono ?_;rintro e w1 ⟨rfl,rfl⟩)|(go_at_call 161;refine (CM.o _).mono ?_;rintro e w1 ⟨rfl,Zj⟩))
   exact nv
  ·have HJ2:Hid (jn=if (List.range 9).any (sameKey R ⟨kd,p,n,q,nm,ss⟩) then 9 else 0):=by show _=_;rw [HJ.o,hj,hm];rfl
   rw [hj] at CJ
   rw [hm] at CM
   clear hj hm HJ
   have XE:∀ w',Below w w w'→∀ j,j<CS.size→w'.cell? ⟨b,0+j,none⟩=CS[j]?:=fun w' h j hj=>by
    rw [h.cell (p:=⟨b,0+j,none⟩) hb];exact fV.o j hj
   have Yg:=Zh XE
   clear XE
   go_enter Tryz.func133,Tryz.ntmps133
   go_wp2_with (first|(go_at_call 80;refine (CJ.o _ (Z' _ _)).mono ?_;rintro e w1 ⟨rfl,rfl⟩)|(go_at_call 161;refine (CM.o _).mono ?_;rintro e w1 ⟨rfl,Zj⟩;have Ru:=(Z' w _).trans (Zj.mono Zi);have GC:=Yg.o _ Ru;have Ng:=Zj.cell (p:=⟨w,4,none⟩) Zi;simp at Ng)|(refine yC.Ty rfl 143 (.tmp 17) rfl b 0 rfl CS (.array 9 9) GC Tryz.underlying143 rfl UQ ?_))
   have TJ:w.heap.size<w1.heap.size:=by have:=Zj.size;simp at this;omega
   clear GC UQ
   go_loopw [19] (fun i w'=>∃ k:Nat,k≤9∧i = .int .i64 k∧Below w w w'∧w.heap.size<w'.heap.size∧w'.cell? ⟨w,4,none⟩=some (.string (str nm))∧Hid (∀ j,j<k→sameKey R ⟨kd,p,n,q,nm,ss⟩ j=false)) (fun i _=>9-(intOf i).toNat)
   case atStart=>exact ⟨0,TS _,rfl,Ru,TJ,Ng,fun j hj=>by omega⟩
   case round=>
    obtain ⟨k,hk,rfl,XS,Vr,Eb,Le⟩:=hrel
    by_cases VD:k<9
    ·have oK:=HP.o k VD
     have pH:Hid (sameKey R ⟨kd,p,n,q,nm,ss⟩ k=(!(R.names k).isEmpty && decide (key (R.names k)=key nm))):=rfl
     have W_:=HNL.o k
     have HIN:Hid (sameKey R ⟨kd,p,n,q,nm,ss⟩ k=true→jn=9):=by
      intro h
      rw [HJ2.o,ZX]
      rw [List.any_eq_true]
      exact ⟨k,by simpa using VD,h⟩
     generalize R.names k=nk at *
     cases Xh:nk.isEmpty
     ·have e1:(str nk).toList.isEmpty=false:=by rw [JE];exact Xh
      have fM:=Zh (fun w2 (h:Below w w w2)=>CK.o nk w2 W_ h)
      have CK2:=Zh (fun w2 (h:Below w w w2)=>CK.o nm w2 jw h)
      rw [Xh] at pH
      clear Xh
      by_cases SL:key nk=key nm
      ·have HF:=Zh (HIN.o (by rw [pH.o,SL];simp))
       rw [SL] at fM
       clear SL
       go_wp2_with fail
       go_region_held3 (fun w'=>w'.cell? ⟨w,4,none⟩=some (.string (str nm))∧Below w w w'∧w.heap.size<w'.heap.size) (first|(refine ⟨?_,?_,?_⟩ <;> first|assumption|(refine Below.drew ?_;assumption))|go_keep) (first|(go_at_call 162;go_split_ands;refine Calls.mono (fM.o _ SN) ?_;rintro e w2 ⟨rfl,Y0⟩;have PT:=(Y0.cell (p:=⟨w,4,none⟩) SN).trans SN;have YF:=Below.trans SN (Y0.mono (lu SN));have vJ:=Px SN Y0.size)|(go_at_call 162;go_split_ands;refine Calls.mono (CK2.o _ SN) ?_;rintro e w3 ⟨rfl,Ut⟩;have cd:=(Ut.cell (p:=⟨w,4,none⟩) SN).trans SN;have WX:=Below.trans SN (Ut.mono (lu SN));have sG:=Px SN Ut.size))
       all_goals (go_wp2;go_ret;exact ⟨Y5 HF.o.symm,by assumption⟩)
      ·have HF:Hid (sameKey R ⟨kd,p,n,q,nm,ss⟩ k=false):=by show _=_;rw [pH.o];simp [SL]
       have e3:((str (key nk)).toList == (str (key nm)).toList)=false:=by rw [WT,ByteArray.toList_eq,ByteArray.toList_eq];exact SL
       clear SL
       go_wp2_with fail
       go_region_held3 (fun w'=>w'.cell? ⟨w,4,none⟩=some (.string (str nm))∧Below w w w'∧w.heap.size<w'.heap.size) (first|(refine ⟨?_,?_,?_⟩ <;> first|assumption|(refine Below.drew ?_;assumption))|go_keep) (first|(go_at_call 162;go_split_ands;refine Calls.mono (fM.o _ SN) ?_;rintro e w2 ⟨rfl,Y0⟩;have PT:=(Y0.cell (p:=⟨w,4,none⟩) SN).trans SN;have YF:=Below.trans SN (Y0.mono (lu SN));have vJ:=Px SN Y0.size)|(go_at_call 162;go_split_ands;refine Calls.mono (CK2.o _ SN) ?_;rintro e w3 ⟨rfl,Ut⟩;have cd:=(Ut.cell (p:=⟨w,4,none⟩) SN).trans SN;have WX:=Below.trans SN (Ut.mono (lu SN));have sG:=Px SN Ut.size))
       all_goals
        go_wp2
        go_roundw
        case rel=>exact ⟨k+1,Zo,Zn,by assumption,by assumption,by assumption,fun j hj=>by by_cases Ke:j<k;exact Le.o j Ke;rw [show j=k by omega];exact HF.o⟩
        case measure=>simp [intOf];omega
     ·have hnk:nk=[]:=List.isEmpty_iff.1 Xh
      have e1:(str nk).toList=[]:=(tO _).2 hnk
      have e2:(str nk).toList.isEmpty=true:=by rw [JE];exact Xh
      have HF:Hid (sameKey R ⟨kd,p,n,q,nm,ss⟩ k=false):=by show _=_;rw [pH.o,Xh];rfl
      clear Xh hnk
      go_wp2
      go_quiet (fail)
      go_wp2
      go_roundw
      case rel=>exact ⟨k+1,Zo,Zn,below_drewN XS _,Vr,Eb,fun j hj=>by by_cases Ke:j<k;exact Le.o j Ke;rw [show j=k by omega];exact HF.o⟩
      case measure=>simp [intOf];omega
    ·have HF:Hid (jn=0):=by
      show _=_
      rw [HJ2.o,Z6]
      rw [List.any_eq_true]
      rintro ⟨j,hj,cJ⟩
      rw [Le.o j (by simp at hj;omega)] at cJ
      cases cJ
     go_wp2
     go_ret
     exact ⟨Y5 HF.o.symm,XS⟩
 ·have HF:Hid (jn=9):=by show _=_;rw [HJ.o,hj];rfl
  rw [hj] at CJ
  clear hj HJ
  go_enter Tryz.func133,Tryz.ntmps133
  go_wp2_with (first|(go_at_call 80;refine (CJ.o _ (Z' _ _)).mono ?_;rintro e w1 ⟨rfl,rfl⟩))
  go_ret
  exact ⟨Y5 HF.o.symm,Z' _ _⟩
theorem QY (p:Nat) (R:Room) (k:Nat):ZP p R (k+1)=if ((ZP p R k).2.sub k p).there then ((ZP p R k).1++[⟨2,p,k,0,0⟩],(ZP p R k).2.ZZ k p VJ) else ZP p R k:=rfl
theorem QZ (p:Nat) (R:Room) (k:Nat):ZM R p (k+1)=if (R.src k).there && decide ((R.src k).own=p) then ((ZM R p k).1++(gone (ZM R p k).2 k).1,(gone (ZM R p k).2 k).2) else ZM R p k:=rfl
theorem PM (R:Room) (n:Nat):(gone R n).1.length≤18:=by
 unfold gone
 dsimp only
 rw [MJ]
 have:=S6 R n
 omega
theorem RA (p:Nat) (R:Room):∀ k,(ZP p R k).1.length≤k
 | 0=>ZB _
 | k+1=>by
  rw [QY]
  have:=RA p R k
  split
  ·simp;omega
  ·omega
theorem Ph (p:Nat) (R:Room):∀ k,(ZM R p k).1.length≤k*18
 | 0=>ZB _
 | k+1=>by
  rw [QZ]
  have:=Ph p R k
  have:=PM (ZM R p k).2 k
  split
  ·simp;omega
  ·omega
theorem GP (R:Room) (p:Nat) (s:List UInt8):(R.setName p s).names p=s:=by simp [Room.setName]
theorem Z4.setName {w:World} {b:Nat} {R:Room} (h:Z4 w b R) {p:Nat} (hp:p<9) (s:List UInt8):Z4 (w.setCell ⟨b,p,none⟩ (.string (str s))) b (R.setName p s):=by
 refine h.set Zo (fun j hj=>?_) h.rows
 unfold Xn
 by_cases h1:j<9
 ·rw [ZX h1,ZX h1]
  by_cases h2:j=p
  ·subst h2;rw [ZX rfl,GP]
  ·rw [Z6 h2];simp [Room.setName,h2]
 ·rw [Z6 h1,Z6 h1,Z6 (by omega:¬j=p)];rfl
theorem vS (b:Nat) (R:Room) (p:Nat) (w:World) (hR:Z4 w b R) (hp:p<9) :
  Calls Tryz.prog 136 (Ql (some ⟨b,0,none⟩) p) w fun e w'=>(∃ v,e = .returned v∧YM w' v (leave R p).1)∧Z4 w' b (leave R p).2∧Fr w (· = b) w w':=by
 have hb:=hR.lt
 have eu:Hid (leave R p=((ZP p R 9).1++(ZM (ZP p R 9).2 p 9).1,(ZM (ZP p R 9).2 p 9).2.setName p [])):=rfl
 have HR:=Zh hR
 clear hR
 go_enter Tryz.func136,Tryz.ntmps136
 go_wp2
 go_loopw [5,9] (fun v i w'=>∃ k:Nat,k≤9∧i = .int .i64 k∧Fr w (· = b) w w'∧Z4 w' b (ZP p R k).2∧w'.ownsRow w 158 5 v (ZP p R k).1.length ((ZP p R k).1.flatMap Z_)) (fun _ i _=>9-(intOf i).toNat)
 case atStart=>exact ⟨0,Zo,rfl,Fr.refl _ _ _,HR.o,Us _ _ _ _⟩
 case round=>
  obtain ⟨k,hk,rfl,Xm,XE,YO⟩:=hrel
  have U5:=Zh Xm
  have Yg:=Zh XE
  have Yu:=Zh YO
  clear Xm XE YO
  by_cases VD:k<9
  ·have HS:=Zh (QY p R k)
   have EW:=RA p R k
   have CE:=Zh (D5 b (ZP p R k).2 p k wr Yg.o VD hp)
   obtain ⟨c0,c1,c2⟩:=Yg.o.IP VD hp
   clear c1 c2
   generalize ZP p R k=G at *
   cases ht:(G.2.sub k p).there
   ·rw [ht] at c0
    have HF:Hid (ZP p R (k+1)=G):=by show _=_;rw [HS.o,ht];rfl
    clear ht
    go_wp2
    go_roundw
    case rel=>exact ⟨k+1,Zo,Zn,U5.o,by rw [HF.o];exact Yg.o,by rw [HF.o];exact Yu.o⟩
    case measure=>simp [intOf];omega
   ·rw [ht] at c0
    have HF:Hid (ZP p R (k+1)=(G.1++[⟨2,p,k,0,0⟩],G.2.ZZ k p VJ)):=by show _=_;rw [HS.o,ht];rfl
    clear ht
    go_wp2_with (first|(go_at_call 139;refine CE.o.mono ?_;rintro e w2 ⟨rfl,Rw,SX⟩;have MD:=Zh Rw;have UE:=Zh SX;clear Rw SX)|(at_builtin;refine Za rfl (.tmp 21) (.tmp 26) 98 rfl w.heap.size XU _ G.1.length (G.1.flatMap Z_) rfl ?a1 _ 1 ([⟨2,p,k,0,0⟩].flatMap Z_) rfl ?a2 rfl ?a4 ?a5 ?a6 ?a7 (fun v' w3 HO HG=>?_)))
    case a1=>exact (Yj Yu.o UE.o (fun k hk=>by omega)).alloc _
    case a2=>exact YL _ _ 1 _ ([⟨2,p,k,0,0⟩].flatMap Z_) Zd rfl
    case a4=>exact Yk _
    case a5=>omega
    case a6=>omega
    case a7=>have h1:=U5.o.size;have h2:=UE.o.size;simp;omega
    go_roundw
    case rel=>
     have h1:=U5.o.size
     have h2:=UE.o.size
     have SZ:=(Yj Yu.o UE.o (fun k hk=>by omega)).alloc (.cells ([⟨2,p,k,0,0⟩].flatMap Z_).toArray 158)
     have XS:=Z' w2 (.cells ([⟨2,p,k,0,0⟩].flatMap Z_).toArray 158)
     refine ⟨k+1,Zo,Zn,?_,?_,?_⟩
     ·exact qO
     ·rw [HF.o]
      exact Z4.grown (MD.o.below XS) SZ HG.o hb Zd
     ·rw [HF.o]
      dsimp only
      rw [SP,QL]
      exact HO.o
    case measure=>simp [intOf];omega
  ·obtain rfl:k=9:=by omega
   have EW:=RA p R 9
   have Dc:Hid (∀ k,ZM (ZP p R 9).2 p (k+1)=if ((ZP p R 9).2.src k).there && decide (((ZP p R 9).2.src k).own=p) then ((ZM (ZP p R 9).2 p k).1++(gone (ZM (ZP p R 9).2 p k).2 k).1,(gone (ZM (ZP p R 9).2 p k).2 k).2) else ZM (ZP p R 9).2 p k):=fun k=>QZ p _ k
   have HLL:Hid (∀ k,(ZM (ZP p R 9).2 p k).1.length≤k*18):=fun k=>Ph p _ k
   have yw:Hid (ZM (ZP p R 9).2 p 0=([],(ZP p R 9).2)):=rfl
   generalize ZP p R 9=X at *
   have SK:∀ j,j<(WE X.2).size→wr.cell? ⟨b,9+j,none⟩=(WE X.2)[j]?:=by
    intro j hj
    rw [Sj] at hj
    rw [Yg.o.cell Zo,M6 X.2 j hj]
   have UQ:(Tryz.prog.info? 146).map (·.size)=some (WE X.2).size:=by rw [Sj];kernel_rfl
   have HP:Hid (∀ n:Nat,n<9→∀ w,(Instr.index 146 (.agg (WE X.2)) (.int .i64 (n:Int))).run Tryz.prog w = .ok (.agg (Jf (X.2.src n).there (X.2.src n).num (X.2.src n).own (X.2.src n).sv (X.2.src n).ZE)) w):=
    fun n hn w=>yC.Np w 146 145 9 (WE X.2) n 5 _ Tryz.underlying146 hn Tryz.underlying145 rfl Zg _ (Ml X.2 n hn)
   have mX:Hid (∀ n,n<9→∃ a c,(X.2.src n).sv = .slice a (X.2.src n).ss.length c):=fun n hn=>by
    obtain ⟨a,c,h,_⟩:=Yg.o.rows n hn
    exact ⟨a,c,h⟩
   generalize WE X.2=CS at *
   obtain ⟨wo,rfl⟩:∃ wo:World,wo=wr:=⟨_,rfl⟩
   go_wp2_with (refine yC.Ty rfl 146 (.tmp 31) rfl b 9 rfl CS (.array 9 145) SK Tryz.underlying146 rfl UQ ?_)
   clear SK UQ
   go_loopw [5,33] (fun v i w'=>∃ k:Nat,k≤9∧i = .int .i64 k∧Fr w (· = b) w w'∧Z4 w' b (ZM X.2 p k).2∧w'.ownsRow w 158 5 v (X.1++(ZM X.2 p k).1).length ((X.1++(ZM X.2 p k).1).flatMap Z_)) (fun _ i _=>9-(intOf i).toNat)
   case atStart=>exact ⟨0,Zo,rfl,U5.o,by rw [yw.o];exact Yg.o,by rw [yw.o,Df];exact Yu.o⟩
   case round=>
    obtain ⟨k,hk,rfl,Xm,XE,YO⟩:=hrel
    clear U5 Yg Yu yw
    have U5:=Zh Xm
    have Yg:=Zh XE
    have Yu:=Zh YO
    clear Xm XE YO
    by_cases VD:k<9
    ·have HS:=Zh (Dc.o k)
     have HGL2:=HLL.o k
     have HGN:=PM (ZM X.2 p k).2 k
     have oK:=HP.o k VD
     have Vr:=U5.o.size
     have CG:=Zh (fun w1 (h:Below wr wr w1)=>H7 b (ZM X.2 p k).2 k w1 (Yg.o.below h) VD)
     obtain ⟨sa,sc,Kg⟩:=mX.o k VD
     rw [Kg] at oK
     clear Kg
     generalize ZM X.2 p k=G at *
     generalize (X.2.src k).num=u1 at *
     generalize (X.2.src k).ZE=u4 at *
     generalize (X.2.src k).ss.length=ul at *
     cases ht:(X.2.src k).there
     ·have HF:Hid (ZM X.2 p (k+1)=G):=by show _=_;rw [HS.o,ht];rfl
      rw [ht] at oK
      clear ht
      exact kN
     ·by_cases ho:(X.2.src k).own=p
      ·have HF:Hid (ZM X.2 p (k+1)=(G.1++(gone G.2 k).1,(gone G.2 k).2)):=by show _=_;rw [HS.o,ht,ho];simp
       rw [ht,ho] at oK
       clear ht ho
       generalize gone G.2 k=Y at *
       go_wp2_with (first|(go_at_call 137;refine (CG.o _ (Z' _ _)).mono ?_;rintro e w2 ⟨⟨tv,rfl,S0⟩,Rw,SX⟩;have DD:=Zh S0;have MD:=Zh Rw;have UE:=Zh SX;clear Rw SX S0)|(at_builtin;refine Za rfl (.tmp 46) (.tmp 49) 98 rfl w.heap.size XU _ (X.1++G.1).length ((X.1++G.1).flatMap Z_) rfl ?b1 _ Y.1.length (Y.1.flatMap Z_) rfl ?b2 ?b3 ?b4 ?b5 ?b6 ?b7 (fun v' w3 HO HG=>?_)))
       case b1=>exact Yj (Yu.o.alloc _) UE.o (fun k hk=>by omega)
       case b2=>exact DD.o
       case b3=>exact Wf _
       case b4=>exact Yk _
       case b5=>simp;omega
       case b6=>simp;omega
       case b7=>have h2:=UE.o.size;simp at h2;omega
       go_roundw
       case rel=>
        have h2:=UE.o.size
        simp at h2
        refine ⟨k+1,Zo,Zn,?_,?_,?_⟩
        ·have h3:=(U5.o.alloc Vr _).trans (UE.o.mono VB (fun _ _ h=>h))
         exact h3.grown HG.o Zo (Yw Yu.o)
        ·rw [HF.o]
         exact Z4.grown MD.o (Yj (Yu.o.alloc _) UE.o (fun k hk=>by omega)) HG.o hb Zd
        ·rw [HF.o]
         dsimp only
         rw [←pL,SP,QL]
         exact HO.o
       case measure=>simp [intOf];omega
      ·have HF:Hid (ZM X.2 p (k+1)=G):=by show _=_;rw [HS.o,ht];simp [ho]
       have Dh:((X.2.src k).own == (p:Int))=false:=by rw [WT];exact ho
       rw [ht] at oK
       clear ht ho
       generalize (X.2.src k).own=u2 at *
       exact kN
    ·obtain rfl:k=9:=by omega
     have c0:=Yg.o.BS hp
     have f0:=Yg.o.YS p
     clear HP Dc HLL
     generalize ZM X.2 p 9=G at *
     go_wp2
     go_ret
     rw [eu.o]
     exact ⟨⟨_,rfl,(Row.ZV Yu.o).fr ((Fr.refl wr.heap.size (· = b) wr).setAt _ _) (ZB _) (Yg.o.G' Zd)⟩,Yg.o.setName hp [],U5.o.setAt _ _⟩
end Go.Proofs.Rm
namespace Go.Proofs.Rm
open Go.RowKit Go.Proofs.Heap Go.Proofs.Mem
theorem GN (R:Room) (n:Nat) (on:Bool) (p:Nat):(Y_ R n on p).length≤2:=by
 unfold Y_ waits
 split
 ·simp
 ·split <;> simp
theorem S4 (R:Room) (n:Nat) (on:Bool):∀ l:List Nat,(l.flatMap (Y_ R n on)).length≤2*l.length
 | []=>ZB _
 | p :: l=>by
  rw [List.flatMap_cons,SP,List.length_cons]
  have:=GN R n on p
  have:=S4 R n on l
  omega
theorem NK {α:Type} (f:Nat→List α) {l:List Nat} {k:Nat} (h:k<l.length):(l.take (k+1)).flatMap f=(l.take k).flatMap f++f (l.getD k 0):=by
 rw [K8 h,QL];simp
theorem zX {R:Room} {n:Nat} {j:Nat} (_hn:n<9) (h:j<(Z8 R n).length):(Z8 R n).getD j 0<9∧(R.sub n ((Z8 R n).getD j 0)).there=true:=by
 refine ⟨Mo h,?_⟩
 rw [Sq,VQ h]
 have:=(lq.1 (Pw h)).2
 simp only [ZH,Ui,Xf] at this
 exact this.2
theorem Nr (s:Src) (on:Bool):∀ j,j<5→N0 {s with ZE:=on} j=if j=4 then .bool on else N0 s j:=by
 intro j hj
 have:j=0∨j=1∨j=2∨j=3∨j=4:=by omega
 rcases this with rfl|rfl|rfl|rfl|rfl <;> rfl
theorem o_ (b:Nat) (R:Room) (n:Nat) (w:World) (hR:Z4 w b R) (hn:n<9) :
  Calls Tryz.prog 140 (Jd (some ⟨b,0,none⟩) n true) w fun e w'=>(∃ v,e = .returned v∧YM w' v (mute R n true).1)∧Z4 w' b (mute R n true).2∧Fr w (· = b) w w':=by
 have hb:=hR.lt
 obtain ⟨s0,s1,s2,s3,s4⟩:=hR.Nw hn
 have f4:=hR.YS (9+n*5+4)
 have MC:=Zh (hR.Uo hn (i:=4) Zo (Nr (R.src n) true) (hR.rows n hn))
 have HM0:Hid (mute R n true=((Z8 (R.Zt n {R.src n with ZE:=true}) n).flatMap (Y_ (R.Zt n {R.src n with ZE:=true}) n true),R.Zt n {R.src n with ZE:=true})):=rfl
 clear s0 s1 s2 s3
 generalize R.Zt n {R.src n with ZE:=true}=R1 at *
 have CS:=Zh (Lq b R1 n _ MC.o)
 have HM:Hid (∀ j,j<(Z8 R1 n).length→(Z8 R1 n).getD j 0<9):=fun j h=>Mo h
 have HL:=S6 R1 n
 have HT:Hid (∀ k,k<(Z8 R1 n).length→((Z8 R1 n).take (k+1)).flatMap (Y_ R1 n true)=((Z8 R1 n).take k).flatMap (Y_ R1 n true)++[⟨6,(Z8 R1 n).getD k 0,n,0,0⟩]):=fun k h=>NK _ h
 have HTL:Hid (∀ k,(((Z8 R1 n).take k).flatMap (Y_ R1 n true)).length≤2*((Z8 R1 n).take k).length):=fun k=>S4 _ _ _ _
 clear hR
 generalize Z8 R1 n=L at *
 generalize Y_ R1 n true=f at *
 go_enter Tryz.func140,Tryz.ntmps140
 go_wp2_with fail
 refine CS.o.mono ?_
 rintro e w1 ⟨⟨lv,rfl,Z7⟩,Zj⟩
 have WS:=Zh Z7
 have HB:=Zh Zj
 have Vr:w.heap.size≤w1.heap.size:=by have:=Zj.size;rw [size_setCell] at this;exact this
 have KC:Hid (Fr w (· = b) w w1):=((Fr.refl w.heap.size (· = b) w).setAt _ _).trans ((Fr.Z9 _ Zj).mono (by rw [size_setCell];exact ZB _) (fun _ _ h=>h))
 have DC:=Zh (MC.o.below Zj)
 clear Zj HB
 rcases Nat.eq_zero_or_pos L.length with h0|h0
 ·exact bo
 ·obtain ⟨g,off,cap,rfl,hg,YX⟩:=U9 Z7 h0
  have HC:=Zh YX
  clear Z7 YX
  go_wp2_with fail
  go_loopw [7,22] (fun v i w'=>∃ k:Nat,k≤L.length∧i = .int .i64 k∧Fr w (· = b) w w'∧Row w' 3 (.slice (some ⟨g,off,none⟩) L.length cap) L.length (ints L)∧Z4 w' b R1∧w'.ownsRow w 158 5 v ((L.take k).flatMap f).length (((L.take k).flatMap f).flatMap Z_)) (fun _ i _=>L.length-(intOf i).toNat)
  case atStart=>exact ⟨0,Zo,rfl,KC.o,WS.o,DC.o,Us _ _ _ _⟩
  case round=>
   obtain ⟨k,hk,rfl,Xm,Z7,XE,YO⟩:=hrel
   have U5:=Zh Xm
   have Rp:=Zh Z7
   have Yg:=Zh XE
   have Yu:=Zh YO
   clear Xm YO XE
   by_cases W_:k<L.length
   ·obtain ⟨g',off',cap',e1,cD,YX⟩:=U9 Z7 h0
    cases e1
    have hc:=YX k W_
    have hp:=HM.o k W_
    have HS:=Zh (HT.o k W_)
    have EW:=HTL.o k
    rw [TU] at EW
    clear YX Z7
    generalize L.getD k 0=p at *
    generalize (L.take k).flatMap f=G at *
    go_wp2_with (at_builtin;refine Za rfl (.tmp 27) (.tmp 31) 98 rfl w.heap.size XU _ G.length (G.flatMap Z_) rfl ?a1 _ 1 ([⟨6,p,n,0,0⟩].flatMap Z_) rfl ?a2 rfl ?a4 ?a5 ?a6 ?a7 (fun v' w3 HO HG=>?_))
    case a1=>exact Yu.o.alloc _
    case a2=>exact YL _ _ 1 _ ([⟨6,p,n,0,0⟩].flatMap Z_) Zd rfl
    case a4=>exact Yk _
    case a5=>omega
    case a6=>omega
    case a7=>have h1:=U5.o.size;simp;omega
    go_roundw
    case rel=>
     have h1:=U5.o.size
     have SZ:=Yu.o.alloc (.cells ([⟨6,p,n,0,0⟩].flatMap Z_).toArray 158)
     have XS:=Z' wr (.cells ([⟨6,p,n,0,0⟩].flatMap Z_).toArray 158)
     refine ⟨k+1,Zo,Zn,?_,?_,?_,?_⟩
     ·exact (U5.o.alloc Zo _).grown HG.o VB (Yw Yu.o)
     ·exact Row.grown (Rp.o.below XS) SZ HG.o Zd
     ·exact Z4.grown (Yg.o.below XS) SZ HG.o hb Zd
     ·rw [HS.o,SP,QL]
      exact HO.o
    case measure=>simp [intOf];omega
   ·exact kT
theorem sZ (b:Nat) (R:Room) (n:Nat) (w:World) (hR:Z4 w b R) (hn:n<9) (TW:∀ p,p<9→(R.sub n p).there=true→0≤(R.sub n p).want∧(R.sub n p).want<(R.src n).ss.length) :
  Calls Tryz.prog 140 (Jd (some ⟨b,0,none⟩) n false) w fun e w'=>(∃ v,e = .returned v∧YM w' v (mute R n false).1)∧Z4 w' b (mute R n false).2∧Fr w (· = b) w w':=by
 have hb:=hR.lt
 obtain ⟨s0,s1,s2,s3,s4⟩:=hR.Nw hn
 have f4:=hR.YS (9+n*5+4)
 have MC:=Zh (hR.Uo hn (i:=4) Zo (Nr (R.src n) false) (hR.rows n hn))
 have HM0:Hid (mute R n false=((Z8 (R.Zt n {R.src n with ZE:=false}) n).flatMap (Y_ (R.Zt n {R.src n with ZE:=false}) n false),R.Zt n {R.src n with ZE:=false})):=rfl
 have AY:Hid (∀ p,p<9→((R.Zt n {R.src n with ZE:=false}).sub n p).there=true→0≤((R.Zt n {R.src n with ZE:=false}).sub n p).want∧((R.Zt n {R.src n with ZE:=false}).sub n p).want<((R.Zt n {R.src n with ZE:=false}).src n).ss.length):=by
  intro p hp ht
  rw [Tu]
  exact TW p hp ht
 clear s0 s1 s2 s3 TW
 generalize R.Zt n {R.src n with ZE:=false}=R1 at *
 have CS:=Zh (Lq b R1 n _ MC.o)
 have HM:Hid (∀ j,j<(Z8 R1 n).length→(Z8 R1 n).getD j 0<9∧(R1.sub n ((Z8 R1 n).getD j 0)).there=true):=fun j h=>zX hn h
 have HL:=S6 R1 n
 have HT:Hid (∀ k,k<(Z8 R1 n).length→((Z8 R1 n).take (k+1)).flatMap (Y_ R1 n false)=((Z8 R1 n).take k).flatMap (Y_ R1 n false)++[⟨7,(Z8 R1 n).getD k 0,n,0,0⟩]++waits R1 ((Z8 R1 n).getD k 0) n):=fun k h=>by rw [NK _ h,pL];rfl
 have HTL:Hid (∀ k,(((Z8 R1 n).take k).flatMap (Y_ R1 n false)).length≤2*((Z8 R1 n).take k).length):=fun k=>S4 _ _ _ _
 have qB:Hid (∀ p,(waits R1 p n).length≤1):=fun p=>by unfold waits;split <;> simp
 clear hR
 generalize Z8 R1 n=L at *
 generalize Y_ R1 n false=f at *
 go_enter Tryz.func140,Tryz.ntmps140
 go_wp2_with fail
 refine CS.o.mono ?_
 rintro e w1 ⟨⟨lv,rfl,Z7⟩,Zj⟩
 have WS:=Zh Z7
 have HB:=Zh Zj
 have Vr:w.heap.size≤w1.heap.size:=by have:=Zj.size;rw [size_setCell] at this;exact this
 have KC:Hid (Fr w (· = b) w w1):=((Fr.refl w.heap.size (· = b) w).setAt _ _).trans ((Fr.Z9 _ Zj).mono (by rw [size_setCell];exact ZB _) (fun _ _ h=>h))
 have DC:=Zh (MC.o.below Zj)
 clear Zj HB
 rcases Nat.eq_zero_or_pos L.length with h0|h0
 ·exact bo
 ·obtain ⟨g,off,cap,rfl,hg,YX⟩:=U9 Z7 h0
  have HC:=Zh YX
  clear Z7 YX
  go_wp2_with fail
  go_loopw [7,22] (fun v i w'=>∃ k:Nat,k≤L.length∧i = .int .i64 k∧Fr w (· = b) w w'∧Row w' 3 (.slice (some ⟨g,off,none⟩) L.length cap) L.length (ints L)∧Z4 w' b R1∧w'.ownsRow w 158 5 v ((L.take k).flatMap f).length (((L.take k).flatMap f).flatMap Z_)) (fun _ i _=>L.length-(intOf i).toNat)
  case atStart=>exact ⟨0,Zo,rfl,KC.o,WS.o,DC.o,Us _ _ _ _⟩
  case round=>
   obtain ⟨k,hk,rfl,Xm,Z7,XE,YO⟩:=hrel
   have U5:=Zh Xm
   have Rp:=Zh Z7
   have Yg:=Zh XE
   have Yu:=Zh YO
   clear Xm YO XE
   by_cases W_:k<L.length
   ·obtain ⟨g',off',cap',e1,cD,YX⟩:=U9 Z7 h0
    cases e1
    have hc:=YX k W_
    have HP:=Zh (HM.o k W_)
    have HS:=Zh (HT.o k W_)
    have EW:=HTL.o k
    have HWLk:=qB.o (L.getD k 0)
    rw [TU] at EW
    clear YX Z7
    generalize L.getD k 0=p at *
    generalize (L.take k).flatMap f=G at *
    have h1:=U5.o.size
    have CW:Hid (∀ w3,Z4 w3 b R1→Calls Tryz.prog 141 (Qs (some ⟨b,0,none⟩) p n) w3 fun e w'=>(∃ v,e = .returned v∧YM w' v (waits R1 p n))∧Below w3 w3 w'):=fun w3 h3=>La b R1 p n w3 h3 hn HP.o.1 (AY.o p HP.o.1 HP.o.2)
    have Mv:=Zh (Yu.o.alloc (.cells ([⟨7,p,n,0,0⟩].flatMap Z_).toArray 158))
    have ER:=Zh (Z' wr (.cells ([⟨7,p,n,0,0⟩].flatMap Z_).toArray 158))
    generalize waits R1 p n=Wt at *
    go_wp2_with (first|(at_builtin;refine Za rfl (.tmp 33) (.tmp 37) 98 rfl w.heap.size XU _ G.length (G.flatMap Z_) rfl ?a1 _ 1 ([⟨7,p,n,0,0⟩].flatMap Z_) rfl ?a2 rfl ?a4 ?a5 ?a6 ?a7 (fun v' w3 HO HG=>?_))|(go_at_call 141;refine (CW.o _ (Z4.grown (Yg.o.below ER.o) Mv.o HG.o hb Zd)).mono ?_;rintro e w4 ⟨⟨tv,rfl,S0⟩,TE⟩;have DD:=Zh S0;have Ur:=Zh TE;clear S0 TE)|(at_builtin;refine Za rfl (.tmp 39) (.tmp 43) 98 rfl w.heap.size XU _ (G++[YE.mk 7 p n 0 0]).length ((G++[YE.mk 7 p n 0 0]).flatMap Z_) rfl ?b1 _ Wt.length (Wt.flatMap Z_) rfl ?b2 ?b3 ?b4 ?b5 ?b6 ?b7 (fun v' w5 kB mM=>?_)))
    case a1=>exact Yu.o.alloc _
    case a2=>exact YL _ _ 1 _ ([⟨7,p,n,0,0⟩].flatMap Z_) Zd rfl
    case a4=>exact Yk _
    case a5=>omega
    case a6=>omega
    case a7=>simp;omega
    case b1=>rw [SP,QL];exact ZF HO.o Ur.o
    case b2=>exact DD.o
    case b3=>exact Wf _
    case b4=>exact Yk _
    case b5=>simp;omega
    case b6=>simp;omega
    case b7=>have h2:=HG.o.size;have h3:=Ur.o.size;simp at h2;omega
    go_roundw
    case rel=>
     have h2:=HG.o.size
     have h3:=Ur.o.size
     simp at h2
     have HO3:=ZF HO.o Ur.o
     refine ⟨k+1,Zo,Zn,?_,?_,?_,?_⟩
     ·have g1:=(U5.o.alloc Zo _).grown HG.o VB (Yw Yu.o)
      have g2:=g1.trans ((Fr.Z9 _ Ur.o).mono Zo (fun _ _ h=>h))
      exact g2.grown mM.o Zo (Yw HO.o)
     ·exact Row.grown ((Row.grown (Rp.o.below ER.o) Mv.o HG.o Zd).below Ur.o) HO3 mM.o Zd
     ·exact Z4.grown ((Z4.grown (Yg.o.below ER.o) Mv.o HG.o hb Zd).below Ur.o) HO3 mM.o hb Zd
     ·rw [HS.o,SP,QL]
      exact kB.o
    case measure=>simp [intOf];omega
   ·exact kT
theorem RF (w:World) (e:TypeId) (size n m:Nat) (xs:List Value) (hl:xs.length=n*size) (hn:n≤maxLen) (hm:m=w.heap.size):(w.alloc (.cells xs.toArray e)).ownsRow m e size (.slice (some ⟨m,0,none⟩) n n) n xs:=by
 subst hm
 exact ⟨hl,.inr ⟨w,n,xs.toArray,rfl,ZB _,(by show (w.heap.push _)[w.heap.size]?=_;simp),ZB _,hn,by simp [hl],by rw [I8 (by simp [hl])]⟩⟩
theorem Z4.alloc {w:World} {b:Nat} {R:Room} (h:Z4 w b R) (o:Obj):Z4 (w.alloc o) b R:=h.below (Z' _ _)
theorem Z4.drew {w:World} {b:Nat} {R:Room} (h:Z4 w b R):Z4 w.drew b R:=h.below (YG _ _).drew
theorem Z4.drewN {w:World} {b:Nat} {R:Room} (h:Z4 w b R) (q:Nat):Z4 (w.drewN q) b R:=h.below (below_drewN (YG _ _) q)
theorem XH {base:Nat} {e:TypeId} {size:Nat} {v:Value} {n:Nat} {xs:List Value} {w:World} (h:w.ownsRow base e size v n xs):w.drew.ownsRow base e size v n xs:=ZF h (YG _ _).drew
theorem Row.drew {w:World} {e:TypeId} {v:Value} {n:Nat} {xs:List Value} (h:Row w e v n xs):Row w.drew e v n xs:=h.below (YG _ _).drew
theorem Fr.drewN {B:Nat} {S:Nat→Prop} {a w:World} (h:Fr B S a w) (q:Nat):Fr B S a (w.drewN q):=h.trans (Fr.Z9 S (below_drewN (YG _ _) q))
theorem KH (b:Nat) (R:Room) (o:Op) (sa ba:Option Addr) (sl sc bl bc:Nat) (w:World) (hR:Z4 w b R) (hs:1≤o.source∧o.source<9) (hp:1≤o.peer∧o.peer<9) (hq:0≤o.Zu∧o.Zu<(R.src o.source.toNat).ss.length) :
  Calls Tryz.prog 138 (Qf (some ⟨b,0,none⟩) (Ji o sa sl sc ba bl bc)) w fun e w'=>(∃ v,e = .returned v∧YM w' v (begin R o).1)∧Z4 w' b (begin R o).2∧Fr w (· = b) w w':=by
 have hb:=hR.lt
 obtain ⟨k,p,n,q,nm,ss⟩:=o
 obtain ⟨n,rfl⟩:=Rn (show 0≤n by have:=hs.1;dsimp only at this;omega)
 obtain ⟨p,rfl⟩:=Rn (show 0≤p by have:=hp.1;dsimp only at this;omega)
 dsimp only at hs hp hq ⊢
 rw [Xf] at hq
 have hn:n<9:=by omega
 have Mz:p<9:=by omega
 obtain ⟨c0,c1,c2⟩:=hR.IP hn Mz
 obtain ⟨s0,s1,s2,s3,s4⟩:=hR.Nw hn
 have f0:=hR.YS (54+n*27+p*3)
 have f1:=hR.YS (54+n*27+p*3+1)
 have f2:=hR.YS (54+n*27+p*3+2)
 clear s0 s1 s2 s3 s4
 have MC:=Zh (hR.ZZ hn Mz ⟨true,false,q⟩)
 have Zj:=MC.o.lt
 obtain ⟨s0,s1,s2,s3,s4⟩:=MC.o.Nw hn
 have OH:Hid (begin R ⟨k,p,n,q,nm,ss⟩=(⟨1,p,n,q,0⟩ :: (if (R.src n).ZE then [⟨6,p,n,0,0⟩] else [asks (R.ZZ n p ⟨true,false,q⟩) p n]),R.ZZ n p ⟨true,false,q⟩)):=rfl
 have CA:Hid (∀ w1,Z4 w1 b (R.ZZ n p ⟨true,false,q⟩)→Calls Tryz.prog 166 (Qs (some ⟨b,0,none⟩) p n) w1 fun e w'=>e = .returned (WG (asks (R.ZZ n p ⟨true,false,q⟩) p n))∧Below w1 w1 w'):=
  fun w1 h=>A5 b _ p n w1 h hn Mz (by rw [WM];exact hq)
 have U5:Hid (Fr w (· = b) w (((w.setCell ⟨b,54+n*27+p*3,none⟩ (.bool true)).setCell ⟨b,54+n*27+p*3+1,none⟩ (.bool false)).setCell ⟨b,54+n*27+p*3+2,none⟩ (.int .i64 q))):=(((Fr.refl _ _ _).setAt _ _).setAt _ _).setAt _ _
 have Yu:Hid (∀ W:World,W.heap.size=w.heap.size→∀ box:Obj,((W.alloc box).alloc (.cells ([YE.mk 1 p n q 0].flatMap Z_).toArray 158)).ownsRow (w.heap.size+1) 158 5 (.slice (some ⟨w.heap.size+1,0,none⟩) 1 1) 1 ([YE.mk 1 p n q 0].flatMap Z_)):=fun W hW box=>RF _ _ 5 1 _ _ rfl Zd (by simp [hW])
 have r_:((R.ZZ n p ⟨true,false,q⟩).src n).ZE=(R.src n).ZE:=rfl
 rw [r_] at s4
 clear s0 s1 s2 s3 r_ hR hq
 unfold WG at CA
 generalize asks (R.ZZ n p ⟨true,false,q⟩) p n=A at *
 generalize R.ZZ n p ⟨true,false,q⟩=R1 at *
 obtain ⟨a1,a2,a3,a4,a5⟩:=A
 dsimp only at *
 cases hm:(R.src n).ZE
 ·rw [hm] at s4
  have HF:Hid (begin R ⟨k,p,n,q,nm,ss⟩=([⟨1,p,n,q,0⟩,⟨a1,a2,a3,a4,a5⟩],R1)):=by show _=_;rw [OH.o,hm];rfl
  clear hm
  go_enter Tryz.func138,Tryz.ntmps138
  go_wp2
  go_region
  go_wp2
  go_region
  go_wp2_with (first|(go_at_call 166;refine (CA.o _ qJ).mono ?_;rintro e w2 ⟨rfl,Y0⟩;have XA:=Zh Y0;clear Y0)|(at_builtin;refine Za rfl (.tmp 43) (.tmp 50) 98 rfl (w.heap.size+1) XU _ 1 ([⟨1,p,n,q,0⟩].flatMap Z_) rfl ?a1 _ 1 ([⟨a1,a2,a3,a4,a5⟩].flatMap Z_) rfl ?a2 rfl ?a4 ?a5 ?a6 ?a7 (fun v' w3 HO HG=>?_)))
  case a1=>exact (ZF (XH (XH (RF _ _ 5 1 (w.heap.size+1) ([⟨1,p,n,q,0⟩].flatMap Z_) rfl Zd Zi))) XA.o).alloc _
  case a2=>exact YL _ _ 1 _ ([⟨a1,a2,a3,a4,a5⟩].flatMap Z_) Zd rfl
  case a4=>exact Yk _
  case a5=>omega
  case a6=>omega
  case a7=>have h2:=XA.o.size;simp at h2 ⊢;omega
  go_ret
  rw [HF.o]
  have h2:=XA.o.size
  simp at h2
  have YO:=(ZF (XH (XH (RF _ 158 5 1 (w.heap.size+1) ([⟨1,p,n,q,0⟩].flatMap Z_) rfl Zd Zi))) XA.o).alloc (.cells (Qi a1 a2 a3 a4 a5) 158)
  refine ⟨⟨_,rfl,Row.ZV HO.o⟩,?_,?_⟩
  ·exact Z4.grown (Z4.alloc (Z4.below qJ XA.o) _) YO HG.o Zo Zd
  ·refine Fr.grown (Fr.alloc (Fr.trans ?_ ((Fr.Z9 _ XA.o).mono (B':=w.heap.size) VB (fun _ _ h=>h))) Zo _) HG.o VB (fun k hk=>by have:=Yw YO k hk;omega)
   exact (((U5.o.alloc Zi _).alloc Zi _).drew).drew
 ·rw [hm] at s4
  have HF:Hid (begin R ⟨k,p,n,q,nm,ss⟩=([⟨1,p,n,q,0⟩,⟨6,p,n,0,0⟩],R1)):=by show _=_;rw [OH.o,hm];rfl
  clear hm
  go_enter Tryz.func138,Tryz.ntmps138
  go_wp2
  go_region
  go_wp2
  go_region
  go_wp2_with (at_builtin;refine Za rfl (.tmp 35) (.tmp 41) 98 rfl (w.heap.size+1) XU _ 1 ([⟨1,p,n,q,0⟩].flatMap Z_) rfl ?a1 _ 1 ([⟨6,p,n,0,0⟩].flatMap Z_) rfl ?a2 rfl ?a4 ?a5 ?a6 ?a7 (fun v' w3 HO HG=>?_))
  case a1=>exact XH (XH ((Yu.o _ Zi _).alloc _))
  case a2=>exact Row.drew (Row.drew (YL _ _ 1 _ ([⟨6,p,n,0,0⟩].flatMap Z_) Zd Zi))
  case a4=>exact Yk _
  case a5=>omega
  case a6=>omega
  case a7=>simp
  go_ret
  rw [HF.o]
  refine ⟨⟨_,rfl,Row.ZV HO.o⟩,?_,?_⟩
  ·exact Z4.grown qJ (by exact XH (XH ((Yu.o _ Zi _).alloc _))) HG.o (by omega:b<w.heap.size+1) Zd
  ·refine Fr.grown ?_ HG.o VB (fun k hk=>by have hk:some (w.heap.size+1)=some k:=hk;cases hk;omega)
   exact ((((U5.o.alloc Zi _).alloc Zi _).alloc VB _).drew).drew
end Go.Proofs.Rm
namespace Go.Proofs.Rm
open Go.RowKit Go.Proofs.Heap Go.Proofs.Mem
open Go.Proofs.N_ (may key Xe)
theorem wP (b:Nat) (R:Room) (o:Op) (sa ba:Option Addr) (sc bl bc:Nat) (w:World) (hR:Z4 w b R) (hT:Xe w) (Vz:o.name.length<9223372036854775807) (bU:∀ p,(R.names p).length<9223372036854775807)
  (Z7:Yf w (.slice sa o.ZO.length sc) o.ZO.length (Zb o.ZO)) :
  Calls Tryz.prog 109 (Qf (some ⟨b,0,none⟩) (Ji o sa o.ZO.length sc ba bl bc)) w fun e w'=>e = .returned (.int .i64 (Yo R o))∧Below w w w':=by
 have CJ:=Zh (fun (w1:World) (h:Below w w w1) (hp:1≤o.peer∧o.peer<9)=>vP b R o sa ba o.ZO.length sc bl bc w1 (hR.below h) hp (Utf8Tabs_below hT h) Vz bU)
 have CP:=Zh (fun (w1:World) (h:Below w w w1) (hs:1≤o.source∧o.source<9)=>GU b R o sa ba sc bl bc w1 (hR.below h) hs (Z7.below h))
 have CA:=Zh (fun (w1:World) (h:Below w w w1) (hs:1≤o.source∧o.source<9) (hp:1≤o.peer∧o.peer<9)=>uV b R o sa ba o.ZO.length sc bl bc w1 (hR.below h) hs hp)
 have CT:=Zh (fun (w1:World) (h:Below w w w1)=>U6 b R o.peer w1 (hR.below h))
 have C1:=Zh (fun (w1:World)=>MU o.peer 9 w1)
 have C2:=Zh (fun (w1:World)=>MU o.source 9 w1)
 obtain ⟨kd,p,n,q,nm,ss⟩:=o
 have hb:=hR.lt
 have HW:Hid (Yo R ⟨kd,p,n,q,nm,ss⟩=if kd<2∨12<kd then 4
  else if !WB p 9 then 5
  else if kd=2 then Nl R ⟨kd,p,n,q,nm,ss⟩
  else if !Zz R p then 8
  else if kd=3 then 0
  else if !WB n 9 then 5
  else if kd=4 then Wv R ⟨kd,p,n,q,nm,ss⟩
  else if !(R.src n.toNat).there then 8
  else about R ⟨kd,p,n,q,nm,ss⟩):=rfl
 have HI1:=Zh (XO p 9)
 have HI2:=Zh (XO n 9)
 have HR:=Zh hR
 dsimp only at *
 clear hR hT Vz bU Z7
 generalize Yo R ⟨kd,p,n,q,nm,ss⟩=yf at *
 generalize Nl R ⟨kd,p,n,q,nm,ss⟩=jn at *
 generalize Wv R ⟨kd,p,n,q,nm,ss⟩=pb at *
 generalize about R ⟨kd,p,n,q,nm,ss⟩=ab at *
 generalize Zz R p=jd at *
 by_cases h1:kd<2
 ·have HF:Hid (yf=4):=by show _=_;rw [HW.o,ZX (Wc h1)]
  go_enter Tryz.func109,Tryz.ntmps109
  go_wp2
  go_ret
  exact ⟨Y5 HF.o.symm,Z' _ _⟩
 by_cases h2:12<kd
 ·have HF:Hid (yf=4):=by show _=_;rw [HW.o,ZX (Wj h2)]
  go_enter Tryz.func109,Tryz.ntmps109
  go_wp2
  go_ret
  exact ⟨Y5 HF.o.symm,Z' _ _⟩
 have EZ:Hid (yf=if !WB p 9 then 5
  else if kd=2 then jn
  else if !jd then 8
  else if kd=3 then 0
  else if !WB n 9 then 5
  else if kd=4 then pb
  else if !(R.src n.toNat).there then 8
  else ab):=by show _=_;rw [HW.o,Z6 Zo]
 clear HW
 cases oI:WB p 9
 ·have HF:Hid (yf=5):=by show _=_;rw [EZ.o,oI];rfl
  rw [oI] at C1
  clear oI EZ
  go_enter Tryz.func109,Tryz.ntmps109
  go_wp2_with (go_at_call 111;refine (C1.o _).mono ?_;rintro e w1 ⟨rfl,rfl⟩)
  go_ret
  exact ⟨Y5 HF.o.symm,Z' _ _⟩
 have Mz:=HI1.o.1 oI
 rw [oI] at C1 EZ
 clear oI HI1
 by_cases h3:kd=2
 ·subst h3
  have HF:Hid (yf=jn):=by show _=_;rw [EZ.o];rfl
  clear EZ
  go_enter Tryz.func109,Tryz.ntmps109
  go_wp2_with (first|(go_at_call 111;refine (C1.o _).mono ?_;rintro e w1 ⟨rfl,rfl⟩)|(go_at_call 133;refine (CJ.o _ (Z' _ _) Mz).mono ?_;rintro e w1 ⟨rfl,Zj⟩))
  exact nv
 have uj:Hid (yf=if !jd then 8
  else if kd=3 then 0
  else if !WB n 9 then 5
  else if kd=4 then pb
  else if !(R.src n.toNat).there then 8
  else ab):=by show _=_;rw [EZ.o];simp [h3]
 have b3:(kd == 2)=false:=by rw [WT];exact h3
 clear EZ h3
 cases jd
 ·have HF:Hid (yf=8):=by show _=_;rw [uj.o];rfl
  exact bq
 by_cases h4:kd=3
 ·subst h4
  have HF:Hid (yf=0):=by show _=_;rw [uj.o];rfl
  exact bq
 have b4:(kd == 3)=false:=by rw [WT];exact h4
 have gG:Hid (yf=if !WB n 9 then 5
  else if kd=4 then pb
  else if !(R.src n.toNat).there then 8
  else ab):=by show _=_;rw [uj.o];simp [h4]
 clear uj h4
 cases Ie:WB n 9
 ·have HF:Hid (yf=5):=by show _=_;rw [gG.o,Ie];rfl
  rw [Ie] at C2
  clear Ie gG
  go_enter Tryz.func109,Tryz.ntmps109
  go_wp2_with fail
  refine (C1.o _).mono ?_
  rintro e w1 ⟨rfl,rfl⟩
  go_wp2_with (first|(go_at_call 80;refine (CT.o _ (Z' _ _)).mono ?_;rintro e w1 ⟨rfl,rfl⟩)|(go_at_call 111;refine (C2.o _).mono ?_;rintro e w1 ⟨rfl,rfl⟩))
  go_ret
  exact ⟨Y5 HF.o.symm,Z' _ _⟩
 have Ju:=HI2.o.1 Ie
 rw [Ie] at C2 gG
 clear Ie HI2
 by_cases h5:kd=4
 ·subst h5
  have HF:Hid (yf=pb):=by show _=_;rw [gG.o];rfl
  clear gG
  go_enter Tryz.func109,Tryz.ntmps109
  go_wp2_with fail
  refine (C1.o _).mono ?_
  rintro e w1 ⟨rfl,rfl⟩
  go_wp2_with (first|(go_at_call 80;refine (CT.o _ (Z' _ _)).mono ?_;rintro e w1 ⟨rfl,rfl⟩)|(go_at_call 111;refine (C2.o _).mono ?_;rintro e w1 ⟨rfl,rfl⟩)|(go_at_call 134;refine (CP.o _ (Z' _ _) Ju).mono ?_;rintro e w1 ⟨rfl,Zj⟩))
  exact nv
 have HW5:Hid (yf=if !(R.src n.toNat).there then 8 else ab):=by show _=_;rw [gG.o];simp [h5]
 have b5:(kd == 4)=false:=by rw [WT];exact h5
 clear gG h5
 obtain ⟨n,rfl⟩:=Rn (show 0≤n by omega)
 rw [Xf] at HW5
 obtain ⟨s0,s1,s2,s3,s4⟩:=HR.o.Nw (n:=n) Zo
 clear s1 s2 s3 s4
 cases ht:(R.src n).there
 ·have HF:Hid (yf=8):=by show _=_;rw [HW5.o,ht];rfl
  rw [ht] at s0
  clear ht HW5
  go_enter Tryz.func109,Tryz.ntmps109
  go_wp2_with fail
  refine (C1.o _).mono ?_
  rintro e w1 ⟨rfl,rfl⟩
  go_wp2_with (first|(go_at_call 80;refine (CT.o _ (Z' _ _)).mono ?_;rintro e w1 ⟨rfl,rfl⟩)|(go_at_call 111;refine (C2.o _).mono ?_;rintro e w1 ⟨rfl,rfl⟩))
  go_quiet (fail)
  go_wp2
  go_ret
  exact ⟨Y5 HF.o.symm,below_drewN (Z' _ _) _⟩
 ·have HF:Hid (yf=ab):=by show _=_;rw [HW5.o,ht];rfl
  rw [ht] at s0
  clear ht HW5
  go_enter Tryz.func109,Tryz.ntmps109
  go_wp2_with fail
  refine (C1.o _).mono ?_
  rintro e w1 ⟨rfl,rfl⟩
  go_wp2_with (first|(go_at_call 80;refine (CT.o _ (Z' _ _)).mono ?_;rintro e w1 ⟨rfl,rfl⟩)|(go_at_call 111;refine (C2.o _).mono ?_;rintro e w1 ⟨rfl,rfl⟩))
  go_quiet (fail)
  go_wp2_with (go_at_call 135;refine (CA.o _ (below_drewN (Z' _ _) _) Ju Mz).mono ?_;rintro e w1 ⟨rfl,Zj⟩)
  go_ret
  exact ⟨Y5 HF.o.symm,(below_drewN (Z' _ _) _).trans (Zj.mono Zi)⟩
end Go.Proofs.Rm
