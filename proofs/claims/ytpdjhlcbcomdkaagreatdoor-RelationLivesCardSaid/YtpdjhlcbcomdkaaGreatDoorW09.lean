/- Part of a proof. -/
import Derived.Test.YtpdjhlcbcomdkaaGreatDoorChecked
import Derived.Test.YtpdjhlcbcomdkaaGreatDoorShelf
import Derived.Test.YtpdjhlcbcomdkaaGreatDoorW08
set_option linter.unusedVariables false
set_option linter.unusedSimpArgs false
set_option maxRecDepth 100000
set_option maxHeartbeats 16000000
open Go Go.Q Go.Qr
namespace Go.Proofs.Od
open Go.RowKit Go.Lib Go.Proofs.Mem
theorem SL (w:World) (s:ByteArray) (p:Nat):Below w w (w.iter s p):=(YH _ _).alloc (Zw _) _
theorem IA {a b:ByteArray} (h:a=b):Ending.returned (.string a) = .returned (.string b):=by rw [h]
theorem Xy {a b:Bool} (h:a=b):Ending.returned (.bool a) = .returned (.bool b):=by rw [h]
theorem YW {k:IntKind} {a b:Int} (h:a=b):Ending.returned (.int k a) = .returned (.int k b):=by rw [h]
theorem Ky (s:ByteArray) (k:Nat) (h:cutAt s.data.toList k<s.size):k<(rn s.data.toList).length∧cutAt s.data.toList (k+1)=cutAt s.data.toList k+(Utf8.decode s (cutAt s.data.toList k)).2∧k≤cutAt s.data.toList k∧(rn s.data.toList)[k]?=some (Utf8.decode s (cutAt s.data.toList k)):=by
 exact Yx108
theorem Dr (s:ByteArray) (k:Nat) (h:¬cutAt s.data.toList k<s.size):(rn s.data.toList).length≤k:=by
 have hl:s.data.toList.length=s.size:=(Lib.size_eq s).symm
 have:=K7 s.data.toList k
 omega
theorem K6 {p:Nat × Nat→Bool} {R:List (Nat × Nat)} {k:Nat} {x:Nat × Nat} (h:(R.take k).all p=true) (hk:R[k]?=some x) (hx:p x=true):(R.take (k+1)).all p=true:=by
 rw [List.take_add_one,hk,List.all_append,h];simp [hx]
theorem Ce {p:Nat × Nat→Bool} {R:List (Nat × Nat)} {k:Nat} {x:Nat × Nat} (hk:R[k]?=some x) (hx:p x=false):R.all p=false:=by
 rw [K4];intro h
 have:=List.all_eq_true.1 h x (List.mem_of_getElem? hk)
 rw [hx] at this;cases this
theorem uH (s:ByteArray) (w:World) (hs:s.size<9223372036854775807) :
  Calls Tryz.prog 161 #[.string s] w (fun e w'=>e = .returned (.bool (may s.data.toList))∧Below w w w'):=by
 exact Yx14
theorem lH (r:Nat):Ix r=true↔33≤r∧(r<127∨159<r)∧r≠65533:=by
 unfold Ix;simp;omega
theorem nD (r:Int) (w:World) (h0:0≤r) (h1:r≤1114111) :
  Calls Tryz.prog 150 #[.int .i32 r] w (fun e w'=>e = .returned (.bool (Ix r.toNat))∧w=w'):=by
 exact Yx31
theorem oJ (s:ByteArray) (n:Nat):s.extract n s.size=str (s.data.toList.drop n):=by
 apply ByteArray.ext
 apply Array.toList_inj.1
 rw [Lib.extract_to_end];rfl
theorem zW (s:ByteArray) (at':Nat) (h:at'<s.size):decodeGo (s.extract at' s.size)=Utf8.decode s at':=by
 rw [oJ,←decodeL_drop]
 unfold decodeGo
 rw [Z4 (by rw [NL,Rx,←Lib.size_eq];omega)]
 rfl
abbrev Xz (w:World):Prop:=Utf8Tabs 0 1 w
theorem mF (s:ByteArray) (at':Nat) (w:World) (h:at'<s.size) (hT:Xz w) :
  Calls Tryz.prog 149 #[.string (s.extract at' s.size)] w (fun e w'=>e = .returned (.tuple #[.int .i32 (Utf8.decode s at').1,.int .i64 (Utf8.decode s at').2])∧Below w w w'):=by
 have:=Tryz.utf8_DecodeRuneInString (s.extract at' s.size) w hT
 rw [zW s at' h] at this
 exact this
theorem xO (s:ByteArray) (w:World) (hs:s.size<9223372036854775807) (hT:Xz w) :
  Calls Tryz.prog 148 #[.string s] w (fun e w'=>e = .returned (.int .i64 (runes s.data.toList))∧Below w w w'):=by
 exact Yx17
theorem AZ (s:ByteArray) (w:World) (hs:s.size<9223372036854775807) (hT:Xz w) :
  Calls Tryz.prog 120 #[.string s] w (fun e w'=>e = .returned (.bool (may s.data.toList))∧Below w w w'):=by
 exact Yx11
/-! Keys -/
theorem nB (r:Int) (w:World) (h0:0≤r) (h1:r≤1114111) :
  Calls Tryz.prog 178 #[.int .i32 r] w (fun e w'=>e = .returned (.int .i32 (Ob r))∧w=w'):=by
 exact Yx47
theorem jF (s:ByteArray) (w:World) (hs:s.size<9223372036854775807) (hT:Xz w) :
  Calls Tryz.prog 162 #[.string s] w (fun e w'=>e = .returned (.string (str (key s.data.toList)))∧Below w w w'):=by
 exact Yx22
theorem EF (l:List UInt8) (k:Nat) (h:k<l.length):((l.take k).map low++l.drop k).getD k 0=l.getD k 0:=by
 rw [Rw,Z1d Uq,Tx,Tg,List.getElem?_drop,Rw]
 congr 2;omega
theorem xH (l:List UInt8) (k:Nat) (h:k<l.length):((l.take k).map low++l.drop k).set k (low (l.getD k 0))=(l.take (k+1)).map low++l.drop (k+1):=by
 exact Yx93
theorem fo (b:UInt8) (h1:65≤b.toNat) (h2:b.toNat≤90):(low b).toNat=b.toNat+32:=by rw [Ry];unfold T6;rw [ZQ ⟨h1,h2⟩]
theorem fk (b:UInt8) (h:¬(65≤b.toNat∧b.toNat≤90)):low b=b:=by unfold low;rw [Z4 h]
theorem setid (l:List UInt8) (k:Nat) (h:k<l.length) (x:UInt8) (hx:x=l.getD k 0):l.set k x=l:=by
 subst hx;rw [Rw,U7 h];exact List.set_getElem_self h
theorem qw (s:ByteArray) (w:World) (hs:s.size<9223372036854775807) (hT:Xz w) :
  Calls Tryz.prog 121 #[.string s] w (fun e w'=>e = .returned (.string (str (key s.data.toList)))∧Below w w w'):=by
 exact Yx12
end Go.Proofs.Od
namespace Go.Proofs.Rm
open Go.RowKit Go.Proofs.Heap Go.Proofs.Mem
open Go.Proofs.Od (may key Xz)
def T8 (R:Room):Array Value:=((List.range 9).map fun j=>Value.string (str (R.names j))).toArray
theorem MP (R:Room):(T8 R).size=9:=by simp [T8]
theorem JZ (R:Room) (j:Nat) (h:j<9):(T8 R)[j]?=some (.string (str (R.names j))):=by simp [T8,h]
theorem tJ (b:Nat) (R:Room) (o:Op) (sa ba:Option Addr) (sl sc bl bc:Nat) (w:World) (hR:ZT w b R) (hp:1≤o.peer∧o.peer<9) (hT:Xz w) (U0:o.name.length<9223372036854775807) (hRn:∀ p,(R.names p).length<9223372036854775807) :
  Calls Tryz.prog 133 (Qi (some ⟨b,0,none⟩) (Jm o sa sl sc ba bl bc)) w fun e w'=>e = .returned (.int .i64 (MO R o))∧Below w w w':=by
 have CJ:=Zh (fun (w1:World) (h:Below w w w1)=>TJ b R o.peer w1 (hR.below h))
 obtain ⟨kd,p,n,q,nm,ss⟩:=o
 have hb:=hR.lt
 have HJ:Hid (MO R ⟨kd,p,n,q,nm,ss⟩=if Ze R p then 9 else if !may nm then 12 else if (List.range 9).any (sameKey R ⟨kd,p,n,q,nm,ss⟩) then 9 else 0):=rfl
 have CM:Hid (∀ w1,Calls Tryz.prog 161 #[.string (str nm)] w1 fun e w'=>e = .returned (.bool (may nm))∧Below w1 w1 w'):=fun w1=>Od.uH (str nm) w1 (by rw [NL];exact U0)
 have CK:Hid (∀ (s:List UInt8) w1,s.length<9223372036854775807→Below w w w1→Calls Tryz.prog 162 #[.string (str s)] w1 fun e w'=>e = .returned (.string (str (key s)))∧Below w1 w1 w'):=fun s w1 hs h=>Od.jF (str s) w1 (by rw [NL];exact hs) (Utf8Tabs_below hT h)
 dsimp only at *
 have Tz:∀ j,j<(T8 R).size→w.cell? ⟨b,0+j,none⟩=(T8 R)[j]?:=by
  intro j hj
  rw [MP] at hj
  rw [QP,hR.vA hj,JZ R j hj]
 have UH:(Tryz.prog.info? 143).map (·.size)=some (T8 R).size:=by rw [MP];kernel_rfl
 have HP:Hid (∀ n:Nat,n<9→∀ w,(Instr.index 143 (.agg (T8 R)) (.int .i64 (n:Int))).run Tryz.prog w = .ok (.string (str (R.names n))) w):=
  fun n hn w=>vZ.Hq w 143 9 9 (T8 R) n _ Tryz.underlying143 hn Tryz.underlying9 rfl ZB _ (JZ R n hn)
 have lU:=Zh Tz
 have HNL:=Zh hRn
 have eu:=U0
 clear hR Tz hRn U0
 generalize T8 R=CS at *
 generalize MO R ⟨kd,p,n,q,nm,ss⟩=jn at *
 cases hj:Ze R p
 ·cases hm:may nm
  ·have HF:Hid (jn=12):=by show _=_;rw [HJ.o,hj,hm];rfl
   rw [hj] at CJ
   rw [hm] at CM
   clear hj hm HJ
   go_enter Tryz.func133,Tryz.ntmps133
   go_wp2_with (first|(go_at_call 80;refine (CJ.o _ (Z' _ _)).mono ?_;rintro e w1 ⟨rfl,rfl⟩)|(go_at_call 161;refine (CM.o _).mono ?_;rintro e w1 ⟨rfl,YZ⟩))
   exact jQ
  ·have HJ2:Hid (jn=if (List.range 9).any (sameKey R ⟨kd,p,n,q,nm,ss⟩) then 9 else 0):=by show _=_;rw [HJ.o,hj,hm];rfl
   rw [hj] at CJ
   rw [hm] at CM
   clear hj hm HJ
   have Xt:∀ w',Below w w w'→∀ j,j<CS.size→w'.cell? ⟨b,0+j,none⟩=CS[j]?:=fun w' h j hj=>by
    rw [h.cell (p:=⟨b,0+j,none⟩) hb];exact lU.o j hj
   have XD:=Zh Xt
   clear Xt
   go_enter Tryz.func133,Tryz.ntmps133
   go_wp2_with (first|(go_at_call 80;refine (CJ.o _ (Z' _ _)).mono ?_;rintro e w1 ⟨rfl,rfl⟩)|(go_at_call 161;refine (CM.o _).mono ?_;rintro e w1 ⟨rfl,YZ⟩;have Rc:=(Z' w _).trans (YZ.mono Zi);have kP:=XD.o _ Rc;have Ag:=YZ.cell (p:=⟨w,4,none⟩) Zi;simp at Ag)|(refine vZ.S0 rfl 143 (.tmp 17) rfl b 0 rfl CS (.array 9 9) kP Tryz.underlying143 rfl UH ?_))
   have QV:w.heap.size<w1.heap.size:=by have:=YZ.size;simp at this;omega
   clear kP UH
   go_loopw [19] (fun i w'=>∃ k:Nat,k≤9∧i = .int .i64 k∧Below w w w'∧w.heap.size<w'.heap.size∧w'.cell? ⟨w,4,none⟩=some (.string (str nm))∧Hid (∀ j,j<k→sameKey R ⟨kd,p,n,q,nm,ss⟩ j=false)) (fun i _=>9-(intOf i).toNat)
   case atStart=>exact ⟨0,Tw _,rfl,Rc,QV,Ag,fun j hj=>by omega⟩
   case round=>
    obtain ⟨k,hk,rfl,W9,T5,CX,KP⟩:=hrel
    by_cases UN:k<9
    ·have kZ:=HP.o k UN
     have HSK:Hid (sameKey R ⟨kd,p,n,q,nm,ss⟩ k=(!(R.names k).isEmpty && decide (key (R.names k)=key nm))):=rfl
     have VR:=HNL.o k
     have HIN:Hid (sameKey R ⟨kd,p,n,q,nm,ss⟩ k=true→jn=9):=by
      intro h
      rw [HJ2.o,ZQ]
      rw [List.any_eq_true]
      exact ⟨k,by simpa using UN,h⟩
     generalize R.names k=nk at *
     cases WM:nk.isEmpty
     ·have e1:(str nk).toList.isEmpty=false:=by rw [IC];exact WM
      have bB:=Zh (fun w2 (h:Below w w w2)=>CK.o nk w2 VR h)
      have CK2:=Zh (fun w2 (h:Below w w w2)=>CK.o nm w2 eu h)
      rw [WM] at HSK
      clear WM
      by_cases Sh:key nk=key nm
      ·have HF:=Zh (HIN.o (by rw [HSK.o,Sh];simp))
       rw [Sh] at bB
       clear Sh
       go_wp2_with fail
       go_region_held3 (fun w'=>w'.cell? ⟨w,4,none⟩=some (.string (str nm))∧Below w w w'∧w.heap.size<w'.heap.size) (first|(refine ⟨?_,?_,?_⟩ <;> first|assumption|(refine Below.drew ?_;assumption))|go_keep) (first|(go_at_call 162;go_split_ands;refine Calls.mono (bB.o _ S5) ?_;rintro e w2 ⟨rfl,Y0⟩;have JK:=(Y0.cell (p:=⟨w,4,none⟩) S5).trans S5;have Yt:=Below.trans S5 (Y0.mono (gW S5));have tD:=Pb S5 Y0.size)|(go_at_call 162;go_split_ands;refine Calls.mono (CK2.o _ S5) ?_;rintro e w3 ⟨rfl,VH⟩;have hbox3:=(VH.cell (p:=⟨w,4,none⟩) S5).trans S5;have Wp:=Below.trans S5 (VH.mono (gW S5));have pM:=Pb S5 VH.size))
       all_goals (go_wp2;go_ret;exact ⟨YW HF.o.symm,by assumption⟩)
      ·have HF:Hid (sameKey R ⟨kd,p,n,q,nm,ss⟩ k=false):=by show _=_;rw [HSK.o];simp [Sh]
       have e3:((str (key nk)).toList == (str (key nm)).toList)=false:=by rw [WQ,ByteArray.toList_eq,ByteArray.toList_eq];exact Sh
       clear Sh
       go_wp2_with fail
       go_region_held3 (fun w'=>w'.cell? ⟨w,4,none⟩=some (.string (str nm))∧Below w w w'∧w.heap.size<w'.heap.size) (first|(refine ⟨?_,?_,?_⟩ <;> first|assumption|(refine Below.drew ?_;assumption))|go_keep) (first|(go_at_call 162;go_split_ands;refine Calls.mono (bB.o _ S5) ?_;rintro e w2 ⟨rfl,Y0⟩;have JK:=(Y0.cell (p:=⟨w,4,none⟩) S5).trans S5;have Yt:=Below.trans S5 (Y0.mono (gW S5));have tD:=Pb S5 Y0.size)|(go_at_call 162;go_split_ands;refine Calls.mono (CK2.o _ S5) ?_;rintro e w3 ⟨rfl,VH⟩;have hbox3:=(VH.cell (p:=⟨w,4,none⟩) S5).trans S5;have Wp:=Below.trans S5 (VH.mono (gW S5));have pM:=Pb S5 VH.size))
       all_goals
        go_wp2
        go_roundw
        case rel=>exact ⟨k+1,Zo,Zn,by assumption,by assumption,by assumption,fun j hj=>by by_cases JN:j<k;exact KP.o j JN;rw [show j=k by omega];exact HF.o⟩
        case measure=>simp [intOf];omega
     ·have hnk:nk=[]:=List.isEmpty_iff.1 WM
      have e1:(str nk).toList=[]:=(qH _).2 hnk
      have e2:(str nk).toList.isEmpty=true:=by rw [IC];exact WM
      have HF:Hid (sameKey R ⟨kd,p,n,q,nm,ss⟩ k=false):=by show _=_;rw [HSK.o,WM];rfl
      clear WM hnk
      go_wp2
      go_quiet (fail)
      go_wp2
      go_roundw
      case rel=>exact ⟨k+1,Zo,Zn,below_drewN W9 _,T5,CX,fun j hj=>by by_cases JN:j<k;exact KP.o j JN;rw [show j=k by omega];exact HF.o⟩
      case measure=>simp [intOf];omega
    ·have HF:Hid (jn=0):=by
      show _=_
      rw [HJ2.o,Z4]
      rw [List.any_eq_true]
      rintro ⟨j,hj,hj2⟩
      rw [KP.o j (by simp at hj;omega)] at hj2
      cases hj2
     go_wp2
     go_ret
     exact ⟨YW HF.o.symm,W9⟩
 ·have HF:Hid (jn=9):=by show _=_;rw [HJ.o,hj];rfl
  rw [hj] at CJ
  clear hj HJ
  go_enter Tryz.func133,Tryz.ntmps133
  go_wp2_with (first|(go_at_call 80;refine (CJ.o _ (Z' _ _)).mono ?_;rintro e w1 ⟨rfl,rfl⟩))
  go_ret
  exact ⟨YW HF.o.symm,Z' _ _⟩
theorem QE (p:Nat) (R:Room) (k:Nat):ZM p R (k+1)=if ((ZM p R k).2.sub k p).there then ((ZM p R k).1++[⟨2,p,k,0,0⟩],(ZM p R k).2.ZP k p Ve) else ZM p R k:=rfl
theorem QF (p:Nat) (R:Room) (k:Nat):ZI R p (k+1)=if (R.src k).there && decide ((R.src k).own=p) then ((ZI R p k).1++(gone (ZI R p k).2 k).1,(gone (ZI R p k).2 k).2) else ZI R p k:=rfl
theorem Pk (R:Room) (n:Nat):(gone R n).1.length≤18:=by
 unfold gone
 dsimp only
 rw [Mk]
 have:=PJ R n
 omega
theorem Rh (p:Nat) (R:Room):∀ k,(ZM p R k).1.length≤k
 | 0=>Zw _
 | k+1=>by
  rw [QE]
  have:=Rh p R k
  split
  ·simp;omega
  ·omega
theorem OL (p:Nat) (R:Room):∀ k,(ZI R p k).1.length≤k*18
 | 0=>Zw _
 | k+1=>by
  rw [QF]
  have:=OL p R k
  have:=Pk (ZI R p k).2 k
  split
  ·simp;omega
  ·omega
theorem FH (R:Room) (p:Nat) (s:List UInt8):(R.setName p s).names p=s:=by simp [Room.setName]
theorem ZT.setName {w:World} {b:Nat} {R:Room} (h:ZT w b R) {p:Nat} (hp:p<9) (s:List UInt8):ZT (w.setCell ⟨b,p,none⟩ (.string (str s))) b (R.setName p s):=by
 refine h.set Zo (fun j hj=>?_) h.rows
 unfold WS
 by_cases h1:j<9
 ·rw [ZQ h1,ZQ h1]
  by_cases h2:j=p
  ·subst h2;rw [ZQ rfl,FH]
  ·rw [Z4 h2];simp [Room.setName,h2]
 ·rw [Z4 h1,Z4 h1,Z4 (by omega:¬j=p)];rfl
theorem tN (b:Nat) (R:Room) (p:Nat) (w:World) (hR:ZT w b R) (hp:p<9) :
  Calls Tryz.prog 136 (Qj (some ⟨b,0,none⟩) p) w fun e w'=>(∃ v,e = .returned v∧YG w' v (leave R p).1)∧ZT w' b (leave R p).2∧Fr w (· = b) w w':=by
 have hb:=hR.lt
 have ax:Hid (leave R p=((ZM p R 9).1++(ZI (ZM p R 9).2 p 9).1,(ZI (ZM p R 9).2 p 9).2.setName p [])):=rfl
 have HR:=Zh hR
 clear hR
 go_enter Tryz.func136,Tryz.ntmps136
 go_wp2
 go_loopw [5,9] (fun v i w'=>∃ k:Nat,k≤9∧i = .int .i64 k∧Fr w (· = b) w w'∧ZT w' b (ZM p R k).2∧w'.ownsRow w 158 5 v (ZM p R k).1.length ((ZM p R k).1.flatMap Z9)) (fun _ i _=>9-(intOf i).toNat)
 case atStart=>exact ⟨0,Zo,rfl,Fr.refl _ _ _,HR.o,Ua _ _ _ _⟩
 case round=>
  obtain ⟨k,hk,rfl,Wx,Xt,YJ⟩:=hrel
  have Uh:=Zh Wx
  have XD:=Zh Xt
  have Yl:=Zh YJ
  clear Wx Xt YJ
  by_cases UN:k<9
  ·have HS:=Zh (QE p R k)
   have BN:=Rh p R k
   have CE:=Zh (Cq b (ZM p R k).2 p k wr XD.o UN hp)
   obtain ⟨c0,c1,c2⟩:=XD.o.Hx UN hp
   clear c1 c2
   generalize ZM p R k=G at *
   cases ht:(G.2.sub k p).there
   ·rw [ht] at c0
    have HF:Hid (ZM p R (k+1)=G):=by show _=_;rw [HS.o,ht];rfl
    clear ht
    go_wp2
    go_roundw
    case rel=>exact ⟨k+1,Zo,Zn,Uh.o,by rw [HF.o];exact XD.o,by rw [HF.o];exact Yl.o⟩
    case measure=>simp [intOf];omega
   ·rw [ht] at c0
    have HF:Hid (ZM p R (k+1)=(G.1++[⟨2,p,k,0,0⟩],G.2.ZP k p Ve)):=by show _=_;rw [HS.o,ht];rfl
    clear ht
    go_wp2_with (first|(go_at_call 139;refine CE.o.mono ?_;rintro e w2 ⟨rfl,Re,Sm⟩;have Ma:=Zh Re;have Ud:=Zh Sm;clear Re Sm)|(at_builtin;refine YV rfl (.tmp 21) (.tmp 26) 98 rfl w.heap.size XP _ G.1.length (G.1.flatMap Z9) rfl ?a1 _ 1 ([⟨2,p,k,0,0⟩].flatMap Z9) rfl ?a2 rfl ?a4 ?a5 ?a6 ?a7 (fun v' w3 HO HG=>?_)))
    case a1=>exact (WJ Yl.o Ud.o (fun k hk=>by omega)).alloc _
    case a2=>exact Yu _ _ 1 _ ([⟨2,p,k,0,0⟩].flatMap Z9) Zd rfl
    case a4=>exact Yc _
    case a5=>omega
    case a6=>omega
    case a7=>have h1:=Uh.o.size;have h2:=Ud.o.size;simp;omega
    go_roundw
    case rel=>
     have h1:=Uh.o.size
     have h2:=Ud.o.size
     have Sn:=(WJ Yl.o Ud.o (fun k hk=>by omega)).alloc (.cells ([⟨2,p,k,0,0⟩].flatMap Z9).toArray 158)
     have W9:=Z' w2 (.cells ([⟨2,p,k,0,0⟩].flatMap Z9).toArray 158)
     refine ⟨k+1,Zo,Zn,?_,?_,?_⟩
     ·exact nO
     ·rw [HF.o]
      exact ZT.grown (Ma.o.below W9) Sn HG.o hb Zd
     ·rw [HF.o]
      dsimp only
      rw [UM,O_]
      exact HO.o
    case measure=>simp [intOf];omega
  ·obtain rfl:k=9:=by omega
   have BN:=Rh p R 9
   have uD:Hid (∀ k,ZI (ZM p R 9).2 p (k+1)=if ((ZM p R 9).2.src k).there && decide (((ZM p R 9).2.src k).own=p) then ((ZI (ZM p R 9).2 p k).1++(gone (ZI (ZM p R 9).2 p k).2 k).1,(gone (ZI (ZM p R 9).2 p k).2 k).2) else ZI (ZM p R 9).2 p k):=fun k=>QF p _ k
   have HLL:Hid (∀ k,(ZI (ZM p R 9).2 p k).1.length≤k*18):=fun k=>OL p _ k
   have vR:Hid (ZI (ZM p R 9).2 p 0=([],(ZM p R 9).2)):=rfl
   generalize ZM p R 9=X at *
   have Tz:∀ j,j<(V7 X.2).size→wr.cell? ⟨b,9+j,none⟩=(V7 X.2)[j]?:=by
    intro j hj
    rw [RR] at hj
    rw [XD.o.cell Zo,MA X.2 j hj]
   have UH:(Tryz.prog.info? 146).map (·.size)=some (V7 X.2).size:=by rw [RR];kernel_rfl
   have HP:Hid (∀ n:Nat,n<9→∀ w,(Instr.index 146 (.agg (V7 X.2)) (.int .i64 (n:Int))).run Tryz.prog w = .ok (.agg (Jk (X.2.src n).there (X.2.src n).num (X.2.src n).own (X.2.src n).sv (X.2.src n).ZG)) w):=
    fun n hn w=>vZ.MQ w 146 145 9 (V7 X.2) n 5 _ Tryz.underlying146 hn Tryz.underlying145 rfl ZB _ (LQ X.2 n hn)
   have jB:Hid (∀ n,n<9→∃ a c,(X.2.src n).sv = .slice a (X.2.src n).ss.length c):=fun n hn=>by
    obtain ⟨a,c,h,_⟩:=XD.o.rows n hn
    exact ⟨a,c,h⟩
   generalize V7 X.2=CS at *
   obtain ⟨wo,rfl⟩:∃ wo:World,wo=wr:=⟨_,rfl⟩
   go_wp2_with (refine vZ.S0 rfl 146 (.tmp 31) rfl b 9 rfl CS (.array 9 145) Tz Tryz.underlying146 rfl UH ?_)
   clear Tz UH
   go_loopw [5,33] (fun v i w'=>∃ k:Nat,k≤9∧i = .int .i64 k∧Fr w (· = b) w w'∧ZT w' b (ZI X.2 p k).2∧w'.ownsRow w 158 5 v (X.1++(ZI X.2 p k).1).length ((X.1++(ZI X.2 p k).1).flatMap Z9)) (fun _ i _=>9-(intOf i).toNat)
   case atStart=>exact ⟨0,Zo,rfl,Uh.o,by rw [vR.o];exact XD.o,by rw [vR.o,wC];exact Yl.o⟩
   case round=>
    obtain ⟨k,hk,rfl,Wx,Xt,YJ⟩:=hrel
    clear Uh XD Yl vR
    have Uh:=Zh Wx
    have XD:=Zh Xt
    have Yl:=Zh YJ
    clear Wx Xt YJ
    by_cases UN:k<9
    ·have HS:=Zh (uD.o k)
     have HGL2:=HLL.o k
     have HGN:=Pk (ZI X.2 p k).2 k
     have kZ:=HP.o k UN
     have T5:=Uh.o.size
     have CG:=Zh (fun w1 (h:Below wr wr w1)=>GL b (ZI X.2 p k).2 k w1 (XD.o.below h) UN)
     obtain ⟨sa,sc,Io⟩:=jB.o k UN
     rw [Io] at kZ
     clear Io
     generalize ZI X.2 p k=G at *
     generalize (X.2.src k).num=u1 at *
     generalize (X.2.src k).ZG=u4 at *
     generalize (X.2.src k).ss.length=ul at *
     cases ht:(X.2.src k).there
     ·have HF:Hid (ZI X.2 p (k+1)=G):=by show _=_;rw [HS.o,ht];rfl
      rw [ht] at kZ
      clear ht
      exact gp
     ·by_cases ho:(X.2.src k).own=p
      ·have HF:Hid (ZI X.2 p (k+1)=(G.1++(gone G.2 k).1,(gone G.2 k).2)):=by show _=_;rw [HS.o,ht,ho];simp
       rw [ht,ho] at kZ
       clear ht ho
       generalize gone G.2 k=Y at *
       go_wp2_with (first|(go_at_call 137;refine (CG.o _ (Z' _ _)).mono ?_;rintro e w2 ⟨⟨tv,rfl,S8⟩,Re,Sm⟩;have F4:=Zh S8;have Ma:=Zh Re;have Ud:=Zh Sm;clear Re Sm S8)|(at_builtin;refine YV rfl (.tmp 46) (.tmp 49) 98 rfl w.heap.size XP _ (X.1++G.1).length ((X.1++G.1).flatMap Z9) rfl ?b1 _ Y.1.length (Y.1.flatMap Z9) rfl ?b2 ?b3 ?b4 ?b5 ?b6 ?b7 (fun v' w3 HO HG=>?_)))
       case b1=>exact WJ (Yl.o.alloc _) Ud.o (fun k hk=>by omega)
       case b2=>exact F4.o
       case b3=>exact VZ _
       case b4=>exact Yc _
       case b5=>simp;omega
       case b6=>simp;omega
       case b7=>have h2:=Ud.o.size;simp at h2;omega
       go_roundw
       case rel=>
        have h2:=Ud.o.size
        simp at h2
        refine ⟨k+1,Zo,Zn,?_,?_,?_⟩
        ·have h3:=(Uh.o.alloc T5 _).trans (Ud.o.mono Uq (fun _ _ h=>h))
         exact h3.grown HG.o Zo (YL Yl.o)
        ·rw [HF.o]
         exact ZT.grown Ma.o (WJ (Yl.o.alloc _) Ud.o (fun k hk=>by omega)) HG.o hb Zd
        ·rw [HF.o]
         dsimp only
         rw [←gV,UM,O_]
         exact HO.o
       case measure=>simp [intOf];omega
      ·have HF:Hid (ZI X.2 p (k+1)=G):=by show _=_;rw [HS.o,ht];simp [ho]
       have uY:((X.2.src k).own == (p:Int))=false:=by rw [WQ];exact ho
       rw [ht] at kZ
       clear ht ho
       generalize (X.2.src k).own=u2 at *
       exact gp
    ·obtain rfl:k=9:=by omega
     have c0:=XD.o.vA hp
     have f0:=XD.o.YC p
     clear HP uD HLL
     generalize ZI X.2 p 9=G at *
     go_wp2
     go_ret
     rw [ax.o]
     exact ⟨⟨_,rfl,(Row.Z6 Yl.o).fr ((Fr.refl wr.heap.size (· = b) wr).setAt _ _) (Zw _) (XD.o.F8 Zd)⟩,XD.o.setName hp [],Uh.o.setAt _ _⟩
end Go.Proofs.Rm
namespace Go.Proofs.Rm
open Go.RowKit Go.Proofs.Heap Go.Proofs.Mem
theorem FE (R:Room) (n:Nat) (on:Bool) (p:Nat):(Y5 R n on p).length≤2:=by
 unfold Y5 waits
 split
 ·simp
 ·split <;> simp
theorem Su (R:Room) (n:Nat) (on:Bool):∀ l:List Nat,(l.flatMap (Y5 R n on)).length≤2*l.length
 | []=>Zw _
 | p :: l=>by
  rw [List.flatMap_cons,UM,List.length_cons]
  have:=FE R n on p
  have:=Su R n on l
  omega
theorem Na {α:Type} (f:Nat→List α) {l:List Nat} {k:Nat} (h:k<l.length):(l.take (k+1)).flatMap f=(l.take k).flatMap f++f (l.getD k 0):=by
 rw [E8 h,O_];simp
theorem yr {R:Room} {n:Nat} {j:Nat} (_hn:n<9) (h:j<(Z5 R n).length):(Z5 R n).getD j 0<9∧(R.sub n ((Z5 R n).getD j 0)).there=true:=by
 refine ⟨Hz h,?_⟩
 rw [Rw,U7 h]
 have:=(aN.1 (Ot h)).2
 simp only [Zx,TU,Wv] at this
 exact this.2
theorem MT (s:Src) (on:Bool):∀ j,j<5→Nl {s with ZG:=on} j=if j=4 then .bool on else Nl s j:=by
 intro j hj
 have:j=0∨j=1∨j=2∨j=3∨j=4:=by omega
 rcases this with rfl|rfl|rfl|rfl|rfl <;> rfl
theorem lG (b:Nat) (R:Room) (n:Nat) (w:World) (hR:ZT w b R) (hn:n<9) :
  Calls Tryz.prog 140 (Jg (some ⟨b,0,none⟩) n true) w fun e w'=>(∃ v,e = .returned v∧YG w' v (mute R n true).1)∧ZT w' b (mute R n true).2∧Fr w (· = b) w w':=by
 have hb:=hR.lt
 obtain ⟨s0,s1,s2,s3,s4⟩:=hR.MZ hn
 have f4:=hR.YC (9+n*5+4)
 have KT:=Zh (hR.TP hn (i:=4) Zo (MT (R.src n) true) (hR.rows n hn))
 have HM0:Hid (mute R n true=((Z5 (R.Y6 n {R.src n with ZG:=true}) n).flatMap (Y5 (R.Y6 n {R.src n with ZG:=true}) n true),R.Y6 n {R.src n with ZG:=true})):=rfl
 clear s0 s1 s2 s3
 generalize R.Y6 n {R.src n with ZG:=true}=R1 at *
 have CS:=Zh (Gq b R1 n _ KT.o)
 have HM:Hid (∀ j,j<(Z5 R1 n).length→(Z5 R1 n).getD j 0<9):=fun j h=>Hz h
 have HL:=PJ R1 n
 have HT:Hid (∀ k,k<(Z5 R1 n).length→((Z5 R1 n).take (k+1)).flatMap (Y5 R1 n true)=((Z5 R1 n).take k).flatMap (Y5 R1 n true)++[⟨6,(Z5 R1 n).getD k 0,n,0,0⟩]):=fun k h=>Na _ h
 have HTL:Hid (∀ k,(((Z5 R1 n).take k).flatMap (Y5 R1 n true)).length≤2*((Z5 R1 n).take k).length):=fun k=>Su _ _ _ _
 clear hR
 generalize Z5 R1 n=L at *
 generalize Y5 R1 n true=f at *
 go_enter Tryz.func140,Tryz.ntmps140
 go_wp2_with fail
 refine CS.o.mono ?_
 rintro e w1 ⟨⟨lv,rfl,Z0⟩,YZ⟩
 have Vi:=Zh Z0
 have HB:=Zh YZ
 have T5:w.heap.size≤w1.heap.size:=by have:=YZ.size;rw [size_setCell] at this;exact this
 have J5:Hid (Fr w (· = b) w w1):=((Fr.refl w.heap.size (· = b) w).setAt _ _).trans ((Fr.Z8 _ YZ).mono (by rw [size_setCell];exact Zw _) (fun _ _ h=>h))
 have BV:=Zh (KT.o.below YZ)
 clear YZ HB
 rcases Nat.eq_zero_or_pos L.length with h0|h0
 ·exact Yx85
 ·obtain ⟨g,off,cap,rfl,hg,Yw⟩:=Ti Z0 h0
  have HC:=Zh Yw
  clear Z0 Yw
  go_wp2_with fail
  go_loopw [7,22] (fun v i w'=>∃ k:Nat,k≤L.length∧i = .int .i64 k∧Fr w (· = b) w w'∧Row w' 3 (.slice (some ⟨g,off,none⟩) L.length cap) L.length (ints L)∧ZT w' b R1∧w'.ownsRow w 158 5 v ((L.take k).flatMap f).length (((L.take k).flatMap f).flatMap Z9)) (fun _ i _=>L.length-(intOf i).toNat)
  case atStart=>exact ⟨0,Zo,rfl,J5.o,Vi.o,BV.o,Ua _ _ _ _⟩
  case round=>
   obtain ⟨k,hk,rfl,Wx,Z0,Xt,YJ⟩:=hrel
   have Uh:=Zh Wx
   have QW:=Zh Z0
   have XD:=Zh Xt
   have Yl:=Zh YJ
   clear Wx YJ Xt
   by_cases VR:k<L.length
   ·obtain ⟨g',off',cap',e1,hg',Yw⟩:=Ti Z0 h0
    cases e1
    have hc:=Yw k VR
    have hp:=HM.o k VR
    have HS:=Zh (HT.o k VR)
    have BN:=HTL.o k
    rw [Tg] at BN
    clear Yw Z0
    generalize L.getD k 0=p at *
    generalize (L.take k).flatMap f=G at *
    go_wp2_with (at_builtin;refine YV rfl (.tmp 27) (.tmp 31) 98 rfl w.heap.size XP _ G.length (G.flatMap Z9) rfl ?a1 _ 1 ([⟨6,p,n,0,0⟩].flatMap Z9) rfl ?a2 rfl ?a4 ?a5 ?a6 ?a7 (fun v' w3 HO HG=>?_))
    case a1=>exact Yl.o.alloc _
    case a2=>exact Yu _ _ 1 _ ([⟨6,p,n,0,0⟩].flatMap Z9) Zd rfl
    case a4=>exact Yc _
    case a5=>omega
    case a6=>omega
    case a7=>have h1:=Uh.o.size;simp;omega
    go_roundw
    case rel=>
     have h1:=Uh.o.size
     have Sn:=Yl.o.alloc (.cells ([⟨6,p,n,0,0⟩].flatMap Z9).toArray 158)
     have W9:=Z' wr (.cells ([⟨6,p,n,0,0⟩].flatMap Z9).toArray 158)
     refine ⟨k+1,Zo,Zn,?_,?_,?_,?_⟩
     ·exact (Uh.o.alloc Zo _).grown HG.o Uq (YL Yl.o)
     ·exact Row.grown (QW.o.below W9) Sn HG.o Zd
     ·exact ZT.grown (XD.o.below W9) Sn HG.o hb Zd
     ·rw [HS.o,UM,O_]
      exact HO.o
    case measure=>simp [intOf];omega
   ·exact gD
theorem qg (b:Nat) (R:Room) (n:Nat) (w:World) (hR:ZT w b R) (hn:n<9) (Th:∀ p,p<9→(R.sub n p).there=true→0≤(R.sub n p).want∧(R.sub n p).want<(R.src n).ss.length) :
  Calls Tryz.prog 140 (Jg (some ⟨b,0,none⟩) n false) w fun e w'=>(∃ v,e = .returned v∧YG w' v (mute R n false).1)∧ZT w' b (mute R n false).2∧Fr w (· = b) w w':=by
 have hb:=hR.lt
 obtain ⟨s0,s1,s2,s3,s4⟩:=hR.MZ hn
 have f4:=hR.YC (9+n*5+4)
 have KT:=Zh (hR.TP hn (i:=4) Zo (MT (R.src n) false) (hR.rows n hn))
 have HM0:Hid (mute R n false=((Z5 (R.Y6 n {R.src n with ZG:=false}) n).flatMap (Y5 (R.Y6 n {R.src n with ZG:=false}) n false),R.Y6 n {R.src n with ZG:=false})):=rfl
 have zF:Hid (∀ p,p<9→((R.Y6 n {R.src n with ZG:=false}).sub n p).there=true→0≤((R.Y6 n {R.src n with ZG:=false}).sub n p).want∧((R.Y6 n {R.src n with ZG:=false}).sub n p).want<((R.Y6 n {R.src n with ZG:=false}).src n).ss.length):=by
  intro p hp ht
  rw [SX]
  exact Th p hp ht
 clear s0 s1 s2 s3 Th
 generalize R.Y6 n {R.src n with ZG:=false}=R1 at *
 have CS:=Zh (Gq b R1 n _ KT.o)
 have HM:Hid (∀ j,j<(Z5 R1 n).length→(Z5 R1 n).getD j 0<9∧(R1.sub n ((Z5 R1 n).getD j 0)).there=true):=fun j h=>yr hn h
 have HL:=PJ R1 n
 have HT:Hid (∀ k,k<(Z5 R1 n).length→((Z5 R1 n).take (k+1)).flatMap (Y5 R1 n false)=((Z5 R1 n).take k).flatMap (Y5 R1 n false)++[⟨7,(Z5 R1 n).getD k 0,n,0,0⟩]++waits R1 ((Z5 R1 n).getD k 0) n):=fun k h=>by rw [Na _ h,gV];rfl
 have HTL:Hid (∀ k,(((Z5 R1 n).take k).flatMap (Y5 R1 n false)).length≤2*((Z5 R1 n).take k).length):=fun k=>Su _ _ _ _
 have nv:Hid (∀ p,(waits R1 p n).length≤1):=fun p=>by unfold waits;split <;> simp
 clear hR
 generalize Z5 R1 n=L at *
 generalize Y5 R1 n false=f at *
 go_enter Tryz.func140,Tryz.ntmps140
 go_wp2_with fail
 refine CS.o.mono ?_
 rintro e w1 ⟨⟨lv,rfl,Z0⟩,YZ⟩
 have Vi:=Zh Z0
 have HB:=Zh YZ
 have T5:w.heap.size≤w1.heap.size:=by have:=YZ.size;rw [size_setCell] at this;exact this
 have J5:Hid (Fr w (· = b) w w1):=((Fr.refl w.heap.size (· = b) w).setAt _ _).trans ((Fr.Z8 _ YZ).mono (by rw [size_setCell];exact Zw _) (fun _ _ h=>h))
 have BV:=Zh (KT.o.below YZ)
 clear YZ HB
 rcases Nat.eq_zero_or_pos L.length with h0|h0
 ·exact Yx85
 ·obtain ⟨g,off,cap,rfl,hg,Yw⟩:=Ti Z0 h0
  have HC:=Zh Yw
  clear Z0 Yw
  go_wp2_with fail
  go_loopw [7,22] (fun v i w'=>∃ k:Nat,k≤L.length∧i = .int .i64 k∧Fr w (· = b) w w'∧Row w' 3 (.slice (some ⟨g,off,none⟩) L.length cap) L.length (ints L)∧ZT w' b R1∧w'.ownsRow w 158 5 v ((L.take k).flatMap f).length (((L.take k).flatMap f).flatMap Z9)) (fun _ i _=>L.length-(intOf i).toNat)
  case atStart=>exact ⟨0,Zo,rfl,J5.o,Vi.o,BV.o,Ua _ _ _ _⟩
  case round=>
   obtain ⟨k,hk,rfl,Wx,Z0,Xt,YJ⟩:=hrel
   have Uh:=Zh Wx
   have QW:=Zh Z0
   have XD:=Zh Xt
   have Yl:=Zh YJ
   clear Wx YJ Xt
   by_cases VR:k<L.length
   ·obtain ⟨g',off',cap',e1,hg',Yw⟩:=Ti Z0 h0
    cases e1
    have hc:=Yw k VR
    have HP:=Zh (HM.o k VR)
    have HS:=Zh (HT.o k VR)
    have BN:=HTL.o k
    have HWLk:=nv.o (L.getD k 0)
    rw [Tg] at BN
    clear Yw Z0
    generalize L.getD k 0=p at *
    generalize (L.take k).flatMap f=G at *
    have h1:=Uh.o.size
    have CW:Hid (∀ w3,ZT w3 b R1→Calls Tryz.prog 141 (Qs (some ⟨b,0,none⟩) p n) w3 fun e w'=>(∃ v,e = .returned v∧YG w' v (waits R1 p n))∧Below w3 w3 w'):=fun w3 h3=>KJ b R1 p n w3 h3 hn HP.o.1 (zF.o p HP.o.1 HP.o.2)
    have NV:=Zh (Yl.o.alloc (.cells ([⟨7,p,n,0,0⟩].flatMap Z9).toArray 158))
    have S_:=Zh (Z' wr (.cells ([⟨7,p,n,0,0⟩].flatMap Z9).toArray 158))
    generalize waits R1 p n=Wt at *
    go_wp2_with (first|(at_builtin;refine YV rfl (.tmp 33) (.tmp 37) 98 rfl w.heap.size XP _ G.length (G.flatMap Z9) rfl ?a1 _ 1 ([⟨7,p,n,0,0⟩].flatMap Z9) rfl ?a2 rfl ?a4 ?a5 ?a6 ?a7 (fun v' w3 HO HG=>?_))|(go_at_call 141;refine (CW.o _ (ZT.grown (XD.o.below S_.o) NV.o HG.o hb Zd)).mono ?_;rintro e w4 ⟨⟨tv,rfl,S8⟩,OE⟩;have F4:=Zh S8;have Uc:=Zh OE;clear S8 OE)|(at_builtin;refine YV rfl (.tmp 39) (.tmp 43) 98 rfl w.heap.size XP _ (G++[YD.mk 7 p n 0 0]).length ((G++[YD.mk 7 p n 0 0]).flatMap Z9) rfl ?b1 _ Wt.length (Wt.flatMap Z9) rfl ?b2 ?b3 ?b4 ?b5 ?b6 ?b7 (fun v' w5 fU jl=>?_)))
    case a1=>exact Yl.o.alloc _
    case a2=>exact Yu _ _ 1 _ ([⟨7,p,n,0,0⟩].flatMap Z9) Zd rfl
    case a4=>exact Yc _
    case a5=>omega
    case a6=>omega
    case a7=>simp;omega
    case b1=>rw [UM,O_];exact Zy HO.o Uc.o
    case b2=>exact F4.o
    case b3=>exact VZ _
    case b4=>exact Yc _
    case b5=>simp;omega
    case b6=>simp;omega
    case b7=>have h2:=HG.o.size;have h3:=Uc.o.size;simp at h2;omega
    go_roundw
    case rel=>
     have h2:=HG.o.size
     have h3:=Uc.o.size
     simp at h2
     have HO3:=Zy HO.o Uc.o
     refine ⟨k+1,Zo,Zn,?_,?_,?_,?_⟩
     ·have g1:=(Uh.o.alloc Zo _).grown HG.o Uq (YL Yl.o)
      have g2:=g1.trans ((Fr.Z8 _ Uc.o).mono Zo (fun _ _ h=>h))
      exact g2.grown jl.o Zo (YL HO.o)
     ·exact Row.grown ((Row.grown (QW.o.below S_.o) NV.o HG.o Zd).below Uc.o) HO3 jl.o Zd
     ·exact ZT.grown ((ZT.grown (XD.o.below S_.o) NV.o HG.o hb Zd).below Uc.o) HO3 jl.o hb Zd
     ·rw [HS.o,UM,O_]
      exact fU.o
    case measure=>simp [intOf];omega
   ·exact gD
theorem Rk (w:World) (e:TypeId) (size n m:Nat) (xs:List Value) (hl:xs.length=n*size) (hn:n≤maxLen) (hm:m=w.heap.size):(w.alloc (.cells xs.toArray e)).ownsRow m e size (.slice (some ⟨m,0,none⟩) n n) n xs:=by
 subst hm
 exact ⟨hl,.inr ⟨w,n,xs.toArray,rfl,Zw _,(by show (w.heap.push _)[w.heap.size]?=_;simp),Zw _,hn,by simp [hl],by rw [F5 (by simp [hl])]⟩⟩
theorem ZT.alloc {w:World} {b:Nat} {R:Room} (h:ZT w b R) (o:Obj):ZT (w.alloc o) b R:=h.below (Z' _ _)
theorem ZT.drew {w:World} {b:Nat} {R:Room} (h:ZT w b R):ZT w.drew b R:=h.below (YH _ _).drew
theorem ZT.drewN {w:World} {b:Nat} {R:Room} (h:ZT w b R) (q:Nat):ZT (w.drewN q) b R:=h.below (below_drewN (YH _ _) q)
theorem Xi {base:Nat} {e:TypeId} {size:Nat} {v:Value} {n:Nat} {xs:List Value} {w:World} (h:w.ownsRow base e size v n xs):w.drew.ownsRow base e size v n xs:=Zy h (YH _ _).drew
theorem Row.drew {w:World} {e:TypeId} {v:Value} {n:Nat} {xs:List Value} (h:Row w e v n xs):Row w.drew e v n xs:=h.below (YH _ _).drew
theorem Fr.drewN {B:Nat} {S:Nat→Prop} {a w:World} (h:Fr B S a w) (q:Nat):Fr B S a (w.drewN q):=h.trans (Fr.Z8 S (below_drewN (YH _ _) q))
theorem D8 (b:Nat) (R:Room) (o:Op) (sa ba:Option Addr) (sl sc bl bc:Nat) (w:World) (hR:ZT w b R) (hs:1≤o.source∧o.source<9) (hp:1≤o.peer∧o.peer<9) (hq:0≤o.ZF∧o.ZF<(R.src o.source.toNat).ss.length) :
  Calls Tryz.prog 138 (Qi (some ⟨b,0,none⟩) (Jm o sa sl sc ba bl bc)) w fun e w'=>(∃ v,e = .returned v∧YG w' v (begin R o).1)∧ZT w' b (begin R o).2∧Fr w (· = b) w w':=by
 have hb:=hR.lt
 obtain ⟨k,p,n,q,nm,ss⟩:=o
 obtain ⟨n,rfl⟩:=QT (show 0≤n by have:=hs.1;dsimp only at this;omega)
 obtain ⟨p,rfl⟩:=QT (show 0≤p by have:=hp.1;dsimp only at this;omega)
 dsimp only at hs hp hq ⊢
 rw [Wv] at hq
 have hn:n<9:=by omega
 have L4:p<9:=by omega
 obtain ⟨c0,c1,c2⟩:=hR.Hx hn L4
 obtain ⟨s0,s1,s2,s3,s4⟩:=hR.MZ hn
 have f0:=hR.YC (54+n*27+p*3)
 have f1:=hR.YC (54+n*27+p*3+1)
 have f2:=hR.YC (54+n*27+p*3+2)
 clear s0 s1 s2 s3 s4
 have KT:=Zh (hR.ZP hn L4 ⟨true,false,q⟩)
 have YZ:=KT.o.lt
 obtain ⟨s0,s1,s2,s3,s4⟩:=KT.o.MZ hn
 have Vp:Hid (begin R ⟨k,p,n,q,nm,ss⟩=(⟨1,p,n,q,0⟩ :: (if (R.src n).ZG then [⟨6,p,n,0,0⟩] else [asks (R.ZP n p ⟨true,false,q⟩) p n]),R.ZP n p ⟨true,false,q⟩)):=rfl
 have CA:Hid (∀ w1,ZT w1 b (R.ZP n p ⟨true,false,q⟩)→Calls Tryz.prog 166 (Qs (some ⟨b,0,none⟩) p n) w1 fun e w'=>e = .returned (V8 (asks (R.ZP n p ⟨true,false,q⟩) p n))∧Below w1 w1 w'):=
  fun w1 h=>zM b _ p n w1 h hn L4 (by rw [Wh];exact hq)
 have Uh:Hid (Fr w (· = b) w (((w.setCell ⟨b,54+n*27+p*3,none⟩ (.bool true)).setCell ⟨b,54+n*27+p*3+1,none⟩ (.bool false)).setCell ⟨b,54+n*27+p*3+2,none⟩ (.int .i64 q))):=(((Fr.refl _ _ _).setAt _ _).setAt _ _).setAt _ _
 have Yl:Hid (∀ W:World,W.heap.size=w.heap.size→∀ box:Obj,((W.alloc box).alloc (.cells ([YD.mk 1 p n q 0].flatMap Z9).toArray 158)).ownsRow (w.heap.size+1) 158 5 (.slice (some ⟨w.heap.size+1,0,none⟩) 1 1) 1 ([YD.mk 1 p n q 0].flatMap Z9)):=fun W hW box=>Rk _ _ 5 1 _ _ rfl Zd (by simp [hW])
 have pq:((R.ZP n p ⟨true,false,q⟩).src n).ZG=(R.src n).ZG:=rfl
 rw [pq] at s4
 clear s0 s1 s2 s3 pq hR hq
 unfold V8 at CA
 generalize asks (R.ZP n p ⟨true,false,q⟩) p n=A at *
 generalize R.ZP n p ⟨true,false,q⟩=R1 at *
 obtain ⟨a1,a2,a3,a4,a5⟩:=A
 dsimp only at *
 cases hm:(R.src n).ZG
 ·rw [hm] at s4
  have HF:Hid (begin R ⟨k,p,n,q,nm,ss⟩=([⟨1,p,n,q,0⟩,⟨a1,a2,a3,a4,a5⟩],R1)):=by show _=_;rw [Vp.o,hm];rfl
  clear hm
  go_enter Tryz.func138,Tryz.ntmps138
  go_wp2
  go_region
  go_wp2
  go_region
  go_wp2_with (first|(go_at_call 166;refine (CA.o _ nK).mono ?_;rintro e w2 ⟨rfl,Y0⟩;have X6:=Zh Y0;clear Y0)|(at_builtin;refine YV rfl (.tmp 43) (.tmp 50) 98 rfl (w.heap.size+1) XP _ 1 ([⟨1,p,n,q,0⟩].flatMap Z9) rfl ?a1 _ 1 ([⟨a1,a2,a3,a4,a5⟩].flatMap Z9) rfl ?a2 rfl ?a4 ?a5 ?a6 ?a7 (fun v' w3 HO HG=>?_)))
  case a1=>exact (Zy (Xi (Xi (Rk _ _ 5 1 (w.heap.size+1) ([⟨1,p,n,q,0⟩].flatMap Z9) rfl Zd Zi))) X6.o).alloc _
  case a2=>exact Yu _ _ 1 _ ([⟨a1,a2,a3,a4,a5⟩].flatMap Z9) Zd rfl
  case a4=>exact Yc _
  case a5=>omega
  case a6=>omega
  case a7=>have h2:=X6.o.size;simp at h2 ⊢;omega
  go_ret
  rw [HF.o]
  have h2:=X6.o.size
  simp at h2
  have YJ:=(Zy (Xi (Xi (Rk _ 158 5 1 (w.heap.size+1) ([⟨1,p,n,q,0⟩].flatMap Z9) rfl Zd Zi))) X6.o).alloc (.cells (Qh a1 a2 a3 a4 a5) 158)
  refine ⟨⟨_,rfl,Row.Z6 HO.o⟩,?_,?_⟩
  ·exact ZT.grown (ZT.alloc (ZT.below nK X6.o) _) YJ HG.o Zo Zd
  ·refine Fr.grown (Fr.alloc (Fr.trans ?_ ((Fr.Z8 _ X6.o).mono (B':=w.heap.size) Uq (fun _ _ h=>h))) Zo _) HG.o Uq (fun k hk=>by have:=YL YJ k hk;omega)
   exact (((Uh.o.alloc Zi _).alloc Zi _).drew).drew
 ·rw [hm] at s4
  have HF:Hid (begin R ⟨k,p,n,q,nm,ss⟩=([⟨1,p,n,q,0⟩,⟨6,p,n,0,0⟩],R1)):=by show _=_;rw [Vp.o,hm];rfl
  clear hm
  go_enter Tryz.func138,Tryz.ntmps138
  go_wp2
  go_region
  go_wp2
  go_region
  go_wp2_with (at_builtin;refine YV rfl (.tmp 35) (.tmp 41) 98 rfl (w.heap.size+1) XP _ 1 ([⟨1,p,n,q,0⟩].flatMap Z9) rfl ?a1 _ 1 ([⟨6,p,n,0,0⟩].flatMap Z9) rfl ?a2 rfl ?a4 ?a5 ?a6 ?a7 (fun v' w3 HO HG=>?_))
  case a1=>exact Xi (Xi ((Yl.o _ Zi _).alloc _))
  case a2=>exact Row.drew (Row.drew (Yu _ _ 1 _ ([⟨6,p,n,0,0⟩].flatMap Z9) Zd Zi))
  case a4=>exact Yc _
  case a5=>omega
  case a6=>omega
  case a7=>simp
  go_ret
  rw [HF.o]
  refine ⟨⟨_,rfl,Row.Z6 HO.o⟩,?_,?_⟩
  ·exact ZT.grown nK (by exact Xi (Xi ((Yl.o _ Zi _).alloc _))) HG.o (by omega:b<w.heap.size+1) Zd
  ·refine Fr.grown ?_ HG.o Uq (fun k hk=>by have hk:some (w.heap.size+1)=some k:=hk;cases hk;omega)
   exact ((((Uh.o.alloc Zi _).alloc Zi _).alloc Uq _).drew).drew
end Go.Proofs.Rm
namespace Go.Proofs.Rm
open Go.RowKit Go.Proofs.Heap Go.Proofs.Mem
open Go.Proofs.Od (may key Xz)
theorem ux (b:Nat) (R:Room) (o:Op) (sa ba:Option Addr) (sc bl bc:Nat) (w:World) (hR:ZT w b R) (hT:Xz w) (U0:o.name.length<9223372036854775807) (hRn:∀ p,(R.names p).length<9223372036854775807)
  (Z0:XU w (.slice sa o.ZK.length sc) o.ZK.length (YO o.ZK)) :
  Calls Tryz.prog 109 (Qi (some ⟨b,0,none⟩) (Jm o sa o.ZK.length sc ba bl bc)) w fun e w'=>e = .returned (.int .i64 (X5 R o))∧Below w w w':=by
 have CJ:=Zh (fun (w1:World) (h:Below w w w1) (hp:1≤o.peer∧o.peer<9)=>tJ b R o sa ba o.ZK.length sc bl bc w1 (hR.below h) hp (Utf8Tabs_below hT h) U0 hRn)
 have CP:=Zh (fun (w1:World) (h:Below w w w1) (hs:1≤o.source∧o.source<9)=>FL b R o sa ba sc bl bc w1 (hR.below h) hs (Z0.below h))
 have CA:=Zh (fun (w1:World) (h:Below w w w1) (hs:1≤o.source∧o.source<9) (hp:1≤o.peer∧o.peer<9)=>sA b R o sa ba o.ZK.length sc bl bc w1 (hR.below h) hs hp)
 have CT:=Zh (fun (w1:World) (h:Below w w w1)=>TJ b R o.peer w1 (hR.below h))
 have C1:=Zh (fun (w1:World)=>Ms o.peer 9 w1)
 have C2:=Zh (fun (w1:World)=>Ms o.source 9 w1)
 obtain ⟨kd,p,n,q,nm,ss⟩:=o
 have hb:=hR.lt
 have HW:Hid (X5 R ⟨kd,p,n,q,nm,ss⟩=if kd<2∨12<kd then 4
  else if !VK p 9 then 5
  else if kd=2 then MO R ⟨kd,p,n,q,nm,ss⟩
  else if !Ze R p then 8
  else if kd=3 then 0
  else if !VK n 9 then 5
  else if kd=4 then VY R ⟨kd,p,n,q,nm,ss⟩
  else if !(R.src n.toNat).there then 8
  else about R ⟨kd,p,n,q,nm,ss⟩):=rfl
 have HI1:=Zh (Xq p 9)
 have HI2:=Zh (Xq n 9)
 have HR:=Zh hR
 dsimp only at *
 clear hR hT U0 hRn Z0
 generalize X5 R ⟨kd,p,n,q,nm,ss⟩=vM at *
 generalize MO R ⟨kd,p,n,q,nm,ss⟩=jn at *
 generalize VY R ⟨kd,p,n,q,nm,ss⟩=pb at *
 generalize about R ⟨kd,p,n,q,nm,ss⟩=ab at *
 generalize Ze R p=jd at *
 by_cases h1:kd<2
 ·have HF:Hid (vM=4):=by show _=_;rw [HW.o,ZQ (Ww h1)]
  go_enter Tryz.func109,Tryz.ntmps109
  go_wp2
  go_ret
  exact ⟨YW HF.o.symm,Z' _ _⟩
 by_cases h2:12<kd
 ·have HF:Hid (vM=4):=by show _=_;rw [HW.o,ZQ (Wi h2)]
  go_enter Tryz.func109,Tryz.ntmps109
  go_wp2
  go_ret
  exact ⟨YW HF.o.symm,Z' _ _⟩
 have DY:Hid (vM=if !VK p 9 then 5
  else if kd=2 then jn
  else if !jd then 8
  else if kd=3 then 0
  else if !VK n 9 then 5
  else if kd=4 then pb
  else if !(R.src n.toNat).there then 8
  else ab):=by show _=_;rw [HW.o,Z4 Zo]
 clear HW
 cases kX:VK p 9
 ·have HF:Hid (vM=5):=by show _=_;rw [DY.o,kX];rfl
  rw [kX] at C1
  clear kX DY
  go_enter Tryz.func109,Tryz.ntmps109
  go_wp2_with (go_at_call 111;refine (C1.o _).mono ?_;rintro e w1 ⟨rfl,rfl⟩)
  go_ret
  exact ⟨YW HF.o.symm,Z' _ _⟩
 have L4:=HI1.o.1 kX
 rw [kX] at C1 DY
 clear kX HI1
 by_cases h3:kd=2
 ·subst h3
  have HF:Hid (vM=jn):=by show _=_;rw [DY.o];rfl
  clear DY
  go_enter Tryz.func109,Tryz.ntmps109
  go_wp2_with (first|(go_at_call 111;refine (C1.o _).mono ?_;rintro e w1 ⟨rfl,rfl⟩)|(go_at_call 133;refine (CJ.o _ (Z' _ _) L4).mono ?_;rintro e w1 ⟨rfl,YZ⟩))
  exact jQ
 have rh:Hid (vM=if !jd then 8
  else if kd=3 then 0
  else if !VK n 9 then 5
  else if kd=4 then pb
  else if !(R.src n.toNat).there then 8
  else ab):=by show _=_;rw [DY.o];simp [h3]
 have b3:(kd == 2)=false:=by rw [WQ];exact h3
 clear DY h3
 cases jd
 ·have HF:Hid (vM=8):=by show _=_;rw [rh.o];rfl
  exact Yx89
 by_cases h4:kd=3
 ·subst h4
  have HF:Hid (vM=0):=by show _=_;rw [rh.o];rfl
  exact Yx89
 have b4:(kd == 3)=false:=by rw [WQ];exact h4
 have cj:Hid (vM=if !VK n 9 then 5
  else if kd=4 then pb
  else if !(R.src n.toNat).there then 8
  else ab):=by show _=_;rw [rh.o];simp [h4]
 clear rh h4
 cases GW:VK n 9
 ·have HF:Hid (vM=5):=by show _=_;rw [cj.o,GW];rfl
  rw [GW] at C2
  clear GW cj
  go_enter Tryz.func109,Tryz.ntmps109
  go_wp2_with fail
  refine (C1.o _).mono ?_
  rintro e w1 ⟨rfl,rfl⟩
  go_wp2_with (first|(go_at_call 80;refine (CT.o _ (Z' _ _)).mono ?_;rintro e w1 ⟨rfl,rfl⟩)|(go_at_call 111;refine (C2.o _).mono ?_;rintro e w1 ⟨rfl,rfl⟩))
  go_ret
  exact ⟨YW HF.o.symm,Z' _ _⟩
 have Il:=HI2.o.1 GW
 rw [GW] at C2 cj
 clear GW HI2
 by_cases h5:kd=4
 ·subst h5
  have HF:Hid (vM=pb):=by show _=_;rw [cj.o];rfl
  clear cj
  go_enter Tryz.func109,Tryz.ntmps109
  go_wp2_with fail
  refine (C1.o _).mono ?_
  rintro e w1 ⟨rfl,rfl⟩
  go_wp2_with (first|(go_at_call 80;refine (CT.o _ (Z' _ _)).mono ?_;rintro e w1 ⟨rfl,rfl⟩)|(go_at_call 111;refine (C2.o _).mono ?_;rintro e w1 ⟨rfl,rfl⟩)|(go_at_call 134;refine (CP.o _ (Z' _ _) Il).mono ?_;rintro e w1 ⟨rfl,YZ⟩))
  exact jQ
 have HW5:Hid (vM=if !(R.src n.toNat).there then 8 else ab):=by show _=_;rw [cj.o];simp [h5]
 have b5:(kd == 4)=false:=by rw [WQ];exact h5
 clear cj h5
 obtain ⟨n,rfl⟩:=QT (show 0≤n by omega)
 rw [Wv] at HW5
 obtain ⟨s0,s1,s2,s3,s4⟩:=HR.o.MZ (n:=n) Zo
 clear s1 s2 s3 s4
 cases ht:(R.src n).there
 ·have HF:Hid (vM=8):=by show _=_;rw [HW5.o,ht];rfl
  rw [ht] at s0
  clear ht HW5
  go_enter Tryz.func109,Tryz.ntmps109
  go_wp2_with fail
  refine (C1.o _).mono ?_
  rintro e w1 ⟨rfl,rfl⟩
  go_wp2_with (first|(go_at_call 80;refine (CT.o _ (Z' _ _)).mono ?_;rintro e w1 ⟨rfl,rfl⟩)|(go_at_call 111;refine (C2.o _).mono ?_;rintro e w1 ⟨rfl,rfl⟩))
  go_quiet (fail)
  go_wp2
  go_ret
  exact ⟨YW HF.o.symm,below_drewN (Z' _ _) _⟩
 ·have HF:Hid (vM=ab):=by show _=_;rw [HW5.o,ht];rfl
  rw [ht] at s0
  clear ht HW5
  go_enter Tryz.func109,Tryz.ntmps109
  go_wp2_with fail
  refine (C1.o _).mono ?_
  rintro e w1 ⟨rfl,rfl⟩
  go_wp2_with (first|(go_at_call 80;refine (CT.o _ (Z' _ _)).mono ?_;rintro e w1 ⟨rfl,rfl⟩)|(go_at_call 111;refine (C2.o _).mono ?_;rintro e w1 ⟨rfl,rfl⟩))
  go_quiet (fail)
  go_wp2_with (go_at_call 135;refine (CA.o _ (below_drewN (Z' _ _) _) Il L4).mono ?_;rintro e w1 ⟨rfl,YZ⟩)
  go_ret
  exact ⟨YW HF.o.symm,(below_drewN (Z' _ _) _).trans (YZ.mono Zi)⟩
end Go.Proofs.Rm
