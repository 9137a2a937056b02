/- Part of a proof. -/
import Derived.Test.YtpdjhlcbcomdkaaGreatDoorChecked
import Derived.Test.YtpdjhlcbcomdkaaGreatDoorShelf
import Derived.Test.YtpdjhlcbcomdkaaGreatDoorR08
set_option linter.unusedVariables false
set_option linter.unusedSimpArgs false
set_option maxRecDepth 100000
set_option maxHeartbeats 16000000
open Go Go.Q Go.Qr
namespace Go.Proofs.NM
open Go.RowKit Go.Lib Go.Proofs.Mem
theorem SF (w:World) (s:ByteArray) (p:Nat):Below w w (w.iter s p):=(YJ _ _).alloc (Zw _) _
theorem Ii {a b:ByteArray} (h:a=b):Ending.returned (.string a) = .returned (.string b):=by rw [h]
theorem Xw {a b:Bool} (h:a=b):Ending.returned (.bool a) = .returned (.bool b):=by rw [h]
theorem YW {k:IntKind} {a b:Int} (h:a=b):Ending.returned (.int k a) = .returned (.int k b):=by rw [h]
theorem Km (s:ByteArray) (k:Nat) (h:cutAt s.data.toList k<s.size):k<(rn s.data.toList).length∧cutAt s.data.toList (k+1)=cutAt s.data.toList k+(Utf8.decode s (cutAt s.data.toList k)).2∧k≤cutAt s.data.toList k∧(rn s.data.toList)[k]?=some (Utf8.decode s (cutAt s.data.toList k)):=by
 exact Yx108
theorem Db (s:ByteArray) (k:Nat) (h:¬cutAt s.data.toList k<s.size):(rn s.data.toList).length≤k:=by
 have hl:s.data.toList.length=s.size:=(Lib.size_eq s).symm;have:=KQ s.data.toList k;omega
theorem KP {p:Nat × Nat→Bool} {R:List (Nat × Nat)} {k:Nat} {x:Nat × Nat} (h:(R.take k).all p=true) (hk:R[k]?=some x) (hx:p x=true):(R.take (k+1)).all p=true:=by
 rw [List.take_add_one,hk,List.all_append,h];simp [hx]
theorem BO {p:Nat × Nat→Bool} {R:List (Nat × Nat)} {k:Nat} {x:Nat × Nat} (hk:R[k]?=some x) (hx:p x=false):R.all p=false:=by
 rw [KM];intro h;have:=List.all_eq_true.1 h x (List.mem_of_getElem? hk);rw [hx] at this;cases this
theorem uh (s:ByteArray) (w:World) (hs:s.size<9223372036854775807) :
  Calls Tryz.prog 161 #[.string s] w (fun e w'=>e = .returned (.bool (may s.data.toList))∧Below w w w'):=by
 exact Yx14
theorem kI (r:Nat):Ig r=true↔33≤r∧(r<127∨159<r)∧r≠65533:=by
 unfold Ig;simp;omega
theorem mL (r:Int) (w:World) (h0:0≤r) (h1:r≤1114111) :
  Calls Tryz.prog 150 #[.int .i32 r] w (fun e w'=>e = .returned (.bool (Ig r.toNat))∧w=w'):=by
 exact Yx31
theorem nO (s:ByteArray) (n:Nat):s.extract n s.size=str (s.data.toList.drop n):=by
 apply ByteArray.ext;apply Array.toList_inj.1;rw [Lib.extract_to_end];rfl
theorem zF (s:ByteArray) (at':Nat) (h:at'<s.size):decodeGo (s.extract at' s.size)=Utf8.decode s at':=by
 rw [nO,←decodeL_drop];unfold decodeGo;rw [Z4 (by rw [Nz,Rg,←Lib.size_eq];omega)];rfl
abbrev Xz (w:World):Prop:=Utf8Tabs 0 1 w
theorem lN (s:ByteArray) (at':Nat) (w:World) (h:at'<s.size) (hT:Xz w) :
  Calls Tryz.prog 149 #[.string (s.extract at' s.size)] w (fun e w'=>e = .returned (.tuple #[.int .i32 (Utf8.decode s at').1,.int .i64 (Utf8.decode s at').2])∧Below w w w'):=by
 have:=Tryz.utf8_DecodeRuneInString (s.extract at' s.size) w hT;rw [zF s at' h] at this;exact this
theorem xj (s:ByteArray) (w:World) (hs:s.size<9223372036854775807) (hT:Xz w) :
  Calls Tryz.prog 148 #[.string s] w (fun e w'=>e = .returned (.int .i64 (runes s.data.toList))∧Below w w w'):=by
 exact Yx17
theorem AB (s:ByteArray) (w:World) (hs:s.size<9223372036854775807) (hT:Xz w) :
  Calls Tryz.prog 120 #[.string s] w (fun e w'=>e = .returned (.bool (may s.data.toList))∧Below w w w'):=by
 exact Yx11
/-! Keys -/
theorem mK (r:Int) (w:World) (h0:0≤r) (h1:r≤1114111) :
  Calls Tryz.prog 178 #[.int .i32 r] w (fun e w'=>e = .returned (.int .i32 (NY r))∧w=w'):=by
 exact Yx47
theorem iT (s:ByteArray) (w:World) (hs:s.size<9223372036854775807) (hT:Xz w) :
  Calls Tryz.prog 162 #[.string s] w (fun e w'=>e = .returned (.string (str (key s.data.toList)))∧Below w w w'):=by
 exact Yx22
theorem Er (l:List UInt8) (k:Nat) (h:k<l.length):((l.take k).map low++l.drop k).getD k 0=l.getD k 0:=by
 rw [SC,Z1c Ug,TB,S4,List.getElem?_drop,SC]
 congr 2;omega
theorem wX (l:List UInt8) (k:Nat) (h:k<l.length):((l.take k).map low++l.drop k).set k (low (l.getD k 0))=(l.take (k+1)).map low++l.drop (k+1):=by
 exact Yx93
theorem ej (b:UInt8) (h1:65≤b.toNat) (h2:b.toNat≤90):(low b).toNat=b.toNat+32:=by rw [Ri];unfold TS;rw [ZR ⟨h1,h2⟩]
theorem ei (b:UInt8) (h:¬(65≤b.toNat∧b.toNat≤90)):low b=b:=by unfold low;rw [Z4 h]
theorem setid (l:List UInt8) (k:Nat) (h:k<l.length) (x:UInt8) (hx:x=l.getD k 0):l.set k x=l:=by
 subst hx;rw [SC,Vb h];exact List.set_getElem_self h
theorem pN (s:ByteArray) (w:World) (hs:s.size<9223372036854775807) (hT:Xz w) :
  Calls Tryz.prog 121 #[.string s] w (fun e w'=>e = .returned (.string (str (key s.data.toList)))∧Below w w w'):=by
 exact Yx12
end Go.Proofs.NM
namespace Go.Proofs.Rm
open Go.RowKit Go.Proofs.Heap Go.Proofs.Mem
open Go.Proofs.NM (may key Xz)
def TU (R:Room):Array Value:=((List.range 9).map fun j=>Value.string (str (R.names j))).toArray
theorem MB (R:Room):(TU R).size=9:=by simp [TU]
theorem JO (R:Room) (j:Nat) (h:j<9):(TU R)[j]?=some (.string (str (R.names j))):=by simp [TU,h]
theorem sP (b:Nat) (R:Room) (o:Op) (sa ba:Option Addr) (sl sc bl bc:Nat) (w:World) (hR:ZT w b R) (hp:1≤o.peer∧o.peer<9) (hT:Xz w) (UT:o.name.length<9223372036854775807) (hRn:∀ p,(R.names p).length<9223372036854775807) :
  Calls Tryz.prog 133 (Qi (some ⟨b,0,none⟩) (Jo o sa sl sc ba bl bc)) w fun e w'=>e = .returned (.int .i64 (MA R o))∧Below w w w':=by
 have CJ:=Zh (fun (w1:World) (h:Below w w w1)=>Ty b R o.peer w1 (hR.below h));obtain ⟨kd,p,n,q,nm,ss⟩:=o;have hb:=hR.lt;have HJ:Hid (MA R ⟨kd,p,n,q,nm,ss⟩=if Y_ R p then 9 else if !may nm then 12 else if (List.range 9).any (sameKey R ⟨kd,p,n,q,nm,ss⟩) then 9 else 0):=rfl;have CM:Hid (∀ w1,Calls Tryz.prog 161 #[.string (str nm)] w1 fun e w'=>e = .returned (.bool (may nm))∧Below w1 w1 w'):=fun w1=>NM.uh (str nm) w1 (by rw [Nz];exact UT)
 have CK:Hid (∀ (s:List UInt8) w1,s.length<9223372036854775807→Below w w w1→Calls Tryz.prog 162 #[.string (str s)] w1 fun e w'=>e = .returned (.string (str (key s)))∧Below w1 w1 w'):=fun s w1 hs h=>NM.iT (str s) w1 (by rw [Nz];exact hs) (Utf8Tabs_below hT h)
 dsimp only at *
 have Tn:∀ j,j<(TU R).size→w.cell? ⟨b,0+j,none⟩=(TU R)[j]?:=by
  intro j hj;rw [MB] at hj;rw [QD,hR.uW hj,JO R j hj]
 have Uz:(Tryz.prog.info? 143).map (·.size)=some (TU R).size:=by rw [MB];kernel_rfl
 have HP:Hid (∀ n:Nat,n<9→∀ w,(Instr.index 143 (.agg (TU R)) (.int .i64 (n:Int))).run Tryz.prog w = .ok (.string (str (R.names n))) w):=
  fun n hn w=>vH.Hc w 143 9 9 (TU R) n _ Tryz.underlying143 hn Tryz.underlying9 rfl ZB _ (JO R n hn)
 have kV:=Zh Tn;have HNL:=Zh hRn;have dB:=UT;clear hR Tn hRn UT;generalize TU R=CS at *
 generalize MA R ⟨kd,p,n,q,nm,ss⟩=jn at *
 cases hj:Y_ R p
 ·cases hm:may nm
  ·have HF:Hid (jn=12):=by show _=_;rw [HJ.o,hj,hm];rfl
   rw [hj] at CJ;rw [hm] at CM;clear hj hm HJ;go_enter Tryz.func133,Tryz.ntmps133;go_wp2_with (first|(go_at_call 80;refine (CJ.o _ (Z' _ _)).mono ?_;rintro e w1 ⟨rfl,rfl⟩)|(go_at_call 161;refine (CM.o _).mono ?_;rintro e w1 ⟨rfl,YY⟩))
   exact jg
  ·have HJ2:Hid (jn=if (List.range 9).any (sameKey R ⟨kd,p,n,q,nm,ss⟩) then 9 else 0):=by show _=_;rw [HJ.o,hj,hm];rfl
   rw [hj] at CJ;rw [hm] at CM;clear hj hm HJ
   have Xp:∀ w',Below w w w'→∀ j,j<CS.size→w'.cell? ⟨b,0+j,none⟩=CS[j]?:=fun w' h j hj=>by
    rw [h.cell (p:=⟨b,0+j,none⟩) hb];exact kV.o j hj
   have Xy:=Zh Xp;clear Xp;go_enter Tryz.func133,Tryz.ntmps133;go_wp2_with (first|(go_at_call 80;refine (CJ.o _ (Z' _ _)).mono ?_;rintro e w1 ⟨rfl,rfl⟩)|(go_at_call 161;refine (CM.o _).mono ?_;rintro e w1 ⟨rfl,YY⟩;have QS:=(Z' w _).trans (YY.mono Zi);have j0:=Xy.o _ QS;have zR:=YY.cell (p:=⟨w,4,none⟩) Zi;simp at zR)|(refine vH.SV rfl 143 (.tmp 17) rfl b 0 rfl CS (.array 9 9) j0 Tryz.underlying143 rfl Uz ?_))
   have QJ:w.heap.size<w1.heap.size:=by have:=YY.size;simp at this;omega
   clear j0 Uz;go_loopw [19] (fun i w'=>∃ k:Nat,k≤9∧i = .int .i64 k∧Below w w w'∧w.heap.size<w'.heap.size∧w'.cell? ⟨w,4,none⟩=some (.string (str nm))∧Hid (∀ j,j<k→sameKey R ⟨kd,p,n,q,nm,ss⟩ j=false)) (fun i _=>9-(intOf i).toNat)
   case atStart=>exact ⟨0,Tk _,rfl,QS,QJ,zR,fun j hj=>by omega⟩
   case round=>
    obtain ⟨k,hk,rfl,W8,TR,Ck,KA⟩:=hrel;by_cases UF:k<9
    ·have kj:=HP.o k UF;have HSK:Hid (sameKey R ⟨kd,p,n,q,nm,ss⟩ k=(!(R.names k).isEmpty && decide (key (R.names k)=key nm))):=rfl;have VK:=HNL.o k
     have HIN:Hid (sameKey R ⟨kd,p,n,q,nm,ss⟩ k=true→jn=9):=by
      intro h;rw [HJ2.o,ZR];rw [List.any_eq_true];exact ⟨k,by simpa using UF,h⟩
     generalize R.names k=nk at *
     cases WK:nk.isEmpty
     ·have e1:(str nk).toList.isEmpty=false:=by rw [Ik];exact WK
      have aF:=Zh (fun w2 (h:Below w w w2)=>CK.o nk w2 VK h);have CK2:=Zh (fun w2 (h:Below w w w2)=>CK.o nm w2 dB h);rw [WK] at HSK;clear WK;by_cases R5:key nk=key nm
      ·have HF:=Zh (HIN.o (by rw [HSK.o,R5];simp));rw [R5] at aF;clear R5;go_wp2_with fail
       go_region_held3 (fun w'=>w'.cell? ⟨w,4,none⟩=some (.string (str nm))∧Below w w w'∧w.heap.size<w'.heap.size) (first|(refine ⟨?_,?_,?_⟩ <;> first|assumption|(refine Below.drew ?_;assumption))|go_keep) (first|(go_at_call 162;go_split_ands;refine Calls.mono (aF.o _ SZ) ?_;rintro e w2 ⟨rfl,Y7⟩;have Jz:=(Y7.cell (p:=⟨w,4,none⟩) SZ).trans SZ;have Yq:=Below.trans SZ (Y7.mono (gf SZ));have sJ:=OS SZ Y7.size)|(go_at_call 162;go_split_ands;refine Calls.mono (CK2.o _ SZ) ?_;rintro e w3 ⟨rfl,VJ⟩;have hbox3:=(VJ.cell (p:=⟨w,4,none⟩) SZ).trans SZ;have Wn:=Below.trans SZ (VJ.mono (gf SZ));have oW:=OS SZ VJ.size))
       all_goals (go_wp2;go_ret;exact ⟨YW HF.o.symm,by assumption⟩)
      ·have HF:Hid (sameKey R ⟨kd,p,n,q,nm,ss⟩ k=false):=by show _=_;rw [HSK.o];simp [R5]
       have e3:((str (key nk)).toList == (str (key nm)).toList)=false:=by rw [WR,ByteArray.toList_eq,ByteArray.toList_eq];exact R5
       clear R5;go_wp2_with fail
       go_region_held3 (fun w'=>w'.cell? ⟨w,4,none⟩=some (.string (str nm))∧Below w w w'∧w.heap.size<w'.heap.size) (first|(refine ⟨?_,?_,?_⟩ <;> first|assumption|(refine Below.drew ?_;assumption))|go_keep) (first|(go_at_call 162;go_split_ands;refine Calls.mono (aF.o _ SZ) ?_;rintro e w2 ⟨rfl,Y7⟩;have Jz:=(Y7.cell (p:=⟨w,4,none⟩) SZ).trans SZ;have Yq:=Below.trans SZ (Y7.mono (gf SZ));have sJ:=OS SZ Y7.size)|(go_at_call 162;go_split_ands;refine Calls.mono (CK2.o _ SZ) ?_;rintro e w3 ⟨rfl,VJ⟩;have hbox3:=(VJ.cell (p:=⟨w,4,none⟩) SZ).trans SZ;have Wn:=Below.trans SZ (VJ.mono (gf SZ));have oW:=OS SZ VJ.size))
       all_goals
        go_wp2;go_roundw
        case rel=>exact ⟨k+1,Zo,Zn,by assumption,by assumption,by assumption,fun j hj=>by by_cases JC:j<k;exact KA.o j JC;rw [show j=k by omega];exact HF.o⟩
        case measure=>simp [intOf];omega
     ·have hnk:nk=[]:=List.isEmpty_iff.1 WK;have e1:(str nk).toList=[]:=(pY _).2 hnk;have e2:(str nk).toList.isEmpty=true:=by rw [Ik];exact WK
      have HF:Hid (sameKey R ⟨kd,p,n,q,nm,ss⟩ k=false):=by show _=_;rw [HSK.o,WK];rfl
      clear WK hnk;go_wp2;go_quiet (fail)
      go_wp2;go_roundw
      case rel=>exact ⟨k+1,Zo,Zn,below_drewN W8 _,TR,Ck,fun j hj=>by by_cases JC:j<k;exact KA.o j JC;rw [show j=k by omega];exact HF.o⟩
      case measure=>simp [intOf];omega
    ·have HF:Hid (jn=0):=by
      show _=_;rw [HJ2.o,Z4];rw [List.any_eq_true];rintro ⟨j,hj,hj2⟩;rw [KA.o j (by simp at hj;omega)] at hj2;cases hj2
     go_wp2;go_ret;exact ⟨YW HF.o.symm,W8⟩
 ·have HF:Hid (jn=9):=by show _=_;rw [HJ.o,hj];rfl
  rw [hj] at CJ;clear hj HJ;go_enter Tryz.func133,Tryz.ntmps133;go_wp2_with (first|(go_at_call 80;refine (CJ.o _ (Z' _ _)).mono ?_;rintro e w1 ⟨rfl,rfl⟩))
  go_ret;exact ⟨YW HF.o.symm,Z' _ _⟩
theorem PX (p:Nat) (R:Room) (k:Nat):ZM p R (k+1)=if ((ZM p R k).2.sub k p).there then ((ZM p R k).1++[⟨2,p,k,0,0⟩],(ZM p R k).2.ZP k p U7) else ZM p R k:=rfl
theorem PZ (p:Nat) (R:Room) (k:Nat):ZI R p (k+1)=if (R.src k).there && decide ((R.src k).own=p) then ((ZI R p k).1++(gone (ZI R p k).2 k).1,(gone (ZI R p k).2 k).2) else ZI R p k:=rfl
theorem O5 (R:Room) (n:Nat):(gone R n).1.length≤18:=by
 unfold gone;dsimp only;rw [L4];have:=Pq R n;omega
theorem QW (p:Nat) (R:Room):∀ k,(ZM p R k).1.length≤k
 | 0=>Zw _
 | k+1=>by
  rw [PX];have:=QW p R k;split
  ·simp;omega
  ·omega
theorem Ou (p:Nat) (R:Room):∀ k,(ZI R p k).1.length≤k*18
 | 0=>Zw _
 | k+1=>by
  rw [PZ];have:=Ou p R k;have:=O5 (ZI R p k).2 k;split
  ·simp;omega
  ·omega
theorem Fm (R:Room) (p:Nat) (s:List UInt8):(R.setName p s).names p=s:=by simp [Room.setName]
theorem ZT.setName {w:World} {b:Nat} {R:Room} (h:ZT w b R) {p:Nat} (hp:p<9) (s:List UInt8):ZT (w.setCell ⟨b,p,none⟩ (.string (str s))) b (R.setName p s):=by
 refine h.set Zo (fun j hj=>?_) h.rows;unfold WO;by_cases h1:j<9
 ·rw [ZR h1,ZR h1];by_cases h2:j=p
  ·subst h2;rw [ZR rfl,Fm]
  ·rw [Z4 h2];simp [Room.setName,h2]
 ·rw [Z4 h1,Z4 h1,Z4 (by omega:¬j=p)];rfl
theorem sV (b:Nat) (R:Room) (p:Nat) (w:World) (hR:ZT w b R) (hp:p<9) :
  Calls Tryz.prog 136 (Qk (some ⟨b,0,none⟩) p) w fun e w'=>(∃ v,e = .returned v∧YF w' v (leave R p).1)∧ZT w' b (leave R p).2∧Fr w (· = b) w w':=by
 have hb:=hR.lt;have HL0:Hid (leave R p=((ZM p R 9).1++(ZI (ZM p R 9).2 p 9).1,(ZI (ZM p R 9).2 p 9).2.setName p [])):=rfl;have HR:=Zh hR;clear hR;go_enter Tryz.func136,Tryz.ntmps136;go_wp2;go_loopw [5,9] (fun v i w'=>∃ k:Nat,k≤9∧i = .int .i64 k∧Fr w (· = b) w w'∧ZT w' b (ZM p R k).2∧w'.ownsRow w 158 5 v (ZM p R k).1.length ((ZM p R k).1.flatMap Z9)) (fun _ i _=>9-(intOf i).toNat)
 case atStart=>exact ⟨0,Zo,rfl,Fr.refl _ _ _,HR.o,TY _ _ _ _⟩
 case round=>
  obtain ⟨k,hk,rfl,Wu,Xp,YH⟩:=hrel;have T8:=Zh Wu;have Xy:=Zh Xp;have Yh:=Zh YH;clear Wu Xp YH;by_cases UF:k<9
  ·have HS:=Zh (PX p R k);have Bt:=QW p R k;have CE:=Zh (B6 b (ZM p R k).2 p k wr Xy.o UF hp);obtain ⟨c0,c1,c2⟩:=Xy.o.Hi UF hp;clear c1 c2;generalize ZM p R k=G at *
   cases ht:(G.2.sub k p).there
   ·rw [ht] at c0;have HF:Hid (ZM p R (k+1)=G):=by show _=_;rw [HS.o,ht];rfl
    clear ht;go_wp2;go_roundw
    case rel=>exact ⟨k+1,Zo,Zn,T8.o,by rw [HF.o];exact Xy.o,by rw [HF.o];exact Yh.o⟩
    case measure=>simp [intOf];omega
   ·rw [ht] at c0;have HF:Hid (ZM p R (k+1)=(G.1++[⟨2,p,k,0,0⟩],G.2.ZP k p U7)):=by show _=_;rw [HS.o,ht];rfl
    clear ht;go_wp2_with (first|(go_at_call 139;refine CE.o.mono ?_;rintro e w2 ⟨rfl,QT,Sb⟩;have LP:=Zh QT;have T4:=Zh Sb;clear QT Sb)|(at_builtin;refine YV rfl (.tmp 21) (.tmp 26) 98 rfl w.heap.size XM _ G.1.length (G.1.flatMap Z9) rfl ?a1 _ 1 ([⟨2,p,k,0,0⟩].flatMap Z9) rfl ?a2 rfl ?a4 ?a5 ?a6 ?a7 (fun v' w3 HO HG=>?_)))
    case a1=>exact (WG Yh.o T4.o (fun k hk=>by omega)).alloc _
    case a2=>exact Yr _ _ 1 _ ([⟨2,p,k,0,0⟩].flatMap Z9) Zd rfl
    case a4=>exact X_ _
    case a5=>omega
    case a6=>omega
    case a7=>have h1:=T8.o.size;have h2:=T4.o.size;simp;omega
    go_roundw
    case rel=>
     have h1:=T8.o.size;have h2:=T4.o.size;have Sc:=(WG Yh.o T4.o (fun k hk=>by omega)).alloc (.cells ([⟨2,p,k,0,0⟩].flatMap Z9).toArray 158);have W8:=Z' w2 (.cells ([⟨2,p,k,0,0⟩].flatMap Z9).toArray 158);refine ⟨k+1,Zo,Zn,?_,?_,?_⟩
     ·exact mW
     ·rw [HF.o];exact ZT.grown (LP.o.below W8) Sc HG.o hb Zd
     ·rw [HF.o];dsimp only;rw [UE,OQ];exact HO.o
    case measure=>simp [intOf];omega
  ·obtain rfl:k=9:=by omega
   have Bt:=QW p R 9;have ud:Hid (∀ k,ZI (ZM p R 9).2 p (k+1)=if ((ZM p R 9).2.src k).there && decide (((ZM p R 9).2.src k).own=p) then ((ZI (ZM p R 9).2 p k).1++(gone (ZI (ZM p R 9).2 p k).2 k).1,(gone (ZI (ZM p R 9).2 p k).2 k).2) else ZI (ZM p R 9).2 p k):=fun k=>PZ p _ k
   have HLL:Hid (∀ k,(ZI (ZM p R 9).2 p k).1.length≤k*18):=fun k=>Ou p _ k
   have vz:Hid (ZI (ZM p R 9).2 p 0=([],(ZM p R 9).2)):=rfl;generalize ZM p R 9=X at *
   have Tn:∀ j,j<(VZ X.2).size→wr.cell? ⟨b,9+j,none⟩=(VZ X.2)[j]?:=by
    intro j hj;rw [Rw] at hj;rw [Xy.o.cell Zo,Mm X.2 j hj]
   have Uz:(Tryz.prog.info? 146).map (·.size)=some (VZ X.2).size:=by rw [Rw];kernel_rfl
   have HP:Hid (∀ n:Nat,n<9→∀ w,(Instr.index 146 (.agg (VZ X.2)) (.int .i64 (n:Int))).run Tryz.prog w = .ok (.agg (Jl (X.2.src n).there (X.2.src n).num (X.2.src n).own (X.2.src n).sv (X.2.src n).ZE)) w):=
    fun n hn w=>vH.MC w 146 145 9 (VZ X.2) n 5 _ Tryz.underlying146 hn Tryz.underlying145 rfl ZB _ (Lz X.2 n hn)
   have iP:Hid (∀ n,n<9→∃ a c,(X.2.src n).sv = .slice a (X.2.src n).ss.length c):=fun n hn=>by
    obtain ⟨a,c,h,_⟩:=Xy.o.rows n hn;exact ⟨a,c,h⟩
   generalize VZ X.2=CS at *
   obtain ⟨wo,rfl⟩:∃ wo:World,wo=wr:=⟨_,rfl⟩;go_wp2_with (refine vH.SV rfl 146 (.tmp 31) rfl b 9 rfl CS (.array 9 145) Tn Tryz.underlying146 rfl Uz ?_)
   clear Tn Uz;go_loopw [5,33] (fun v i w'=>∃ k:Nat,k≤9∧i = .int .i64 k∧Fr w (· = b) w w'∧ZT w' b (ZI X.2 p k).2∧w'.ownsRow w 158 5 v (X.1++(ZI X.2 p k).1).length ((X.1++(ZI X.2 p k).1).flatMap Z9)) (fun _ i _=>9-(intOf i).toNat)
   case atStart=>exact ⟨0,Zo,rfl,T8.o,by rw [vz.o];exact Xy.o,by rw [vz.o,um];exact Yh.o⟩
   case round=>
    obtain ⟨k,hk,rfl,Wu,Xp,YH⟩:=hrel;clear T8 Xy Yh vz;have T8:=Zh Wu;have Xy:=Zh Xp;have Yh:=Zh YH;clear Wu Xp YH;by_cases UF:k<9
    ·have HS:=Zh (ud.o k);have HGL2:=HLL.o k;have HGN:=O5 (ZI X.2 p k).2 k;have kj:=HP.o k UF;have TR:=T8.o.size;have CG:=Zh (fun w1 (h:Below wr wr w1)=>Gr b (ZI X.2 p k).2 k w1 (Xy.o.below h) UF);obtain ⟨sa,sc,H_⟩:=iP.o k UF;rw [H_] at kj;clear H_;generalize ZI X.2 p k=G at *
     generalize (X.2.src k).num=u1 at *
     generalize (X.2.src k).ZE=u4 at *
     generalize (X.2.src k).ss.length=ul at *
     cases ht:(X.2.src k).there
     ·have HF:Hid (ZI X.2 p (k+1)=G):=by show _=_;rw [HS.o,ht];rfl
      rw [ht] at kj;clear ht;exact fG
     ·by_cases ho:(X.2.src k).own=p
      ·have HF:Hid (ZI X.2 p (k+1)=(G.1++(gone G.2 k).1,(gone G.2 k).2)):=by show _=_;rw [HS.o,ht,ho];simp
       rw [ht,ho] at kj;clear ht ho;generalize gone G.2 k=Y at *
       go_wp2_with (first|(go_at_call 137;refine (CG.o _ (Z' _ _)).mono ?_;rintro e w2 ⟨⟨tv,rfl,S3⟩,QT,Sb⟩;have FK:=Zh S3;have LP:=Zh QT;have T4:=Zh Sb;clear QT Sb S3)|(at_builtin;refine YV rfl (.tmp 46) (.tmp 49) 98 rfl w.heap.size XM _ (X.1++G.1).length ((X.1++G.1).flatMap Z9) rfl ?b1 _ Y.1.length (Y.1.flatMap Z9) rfl ?b2 ?b3 ?b4 ?b5 ?b6 ?b7 (fun v' w3 HO HG=>?_)))
       case b1=>exact WG (Yh.o.alloc _) T4.o (fun k hk=>by omega)
       case b2=>exact FK.o
       case b3=>exact VT _
       case b4=>exact X_ _
       case b5=>simp;omega
       case b6=>simp;omega
       case b7=>have h2:=T4.o.size;simp at h2;omega
       go_roundw
       case rel=>
        have h2:=T4.o.size;simp at h2;refine ⟨k+1,Zo,Zn,?_,?_,?_⟩
        ·have h3:=(T8.o.alloc TR _).trans (T4.o.mono Ug (fun _ _ h=>h));exact h3.grown HG.o Zo (YL Yh.o)
        ·rw [HF.o];exact ZT.grown LP.o (WG (Yh.o.alloc _) T4.o (fun k hk=>by omega)) HG.o hb Zd
        ·rw [HF.o];dsimp only;rw [←gb,UE,OQ];exact HO.o
       case measure=>simp [intOf];omega
      ·have HF:Hid (ZI X.2 p (k+1)=G):=by show _=_;rw [HS.o,ht];simp [ho]
       have uE:((X.2.src k).own == (p:Int))=false:=by rw [WR];exact ho
       rw [ht] at kj;clear ht ho;generalize (X.2.src k).own=u2 at *
       exact fG
    ·obtain rfl:k=9:=by omega
     have c0:=Xy.o.uW hp;have f0:=Xy.o.Yz p;clear HP ud HLL;generalize ZI X.2 p 9=G at *
     go_wp2;go_ret;rw [HL0.o];exact ⟨⟨_,rfl,(Row.Z6 Yh.o).fr ((Fr.refl wr.heap.size (· = b) wr).setAt _ _) (Zw _) (Xy.o.FO Zd)⟩,Xy.o.setName hp [],T8.o.setAt _ _⟩
end Go.Proofs.Rm
namespace Go.Proofs.Rm
open Go.RowKit Go.Proofs.Heap Go.Proofs.Mem
theorem Fl (R:Room) (n:Nat) (on:Bool) (p:Nat):(Y0 R n on p).length≤2:=by
 unfold Y0 waits;split
 ·simp
 ·split <;> simp
theorem Sj (R:Room) (n:Nat) (on:Bool):∀ l:List Nat,(l.flatMap (Y0 R n on)).length≤2*l.length
 | []=>Zw _
 | p :: l=>by
  rw [List.flatMap_cons,UE,List.length_cons];have:=Fl R n on p;have:=Sj R n on l;omega
theorem MW {α:Type} (f:Nat→List α) {l:List Nat} {k:Nat} (h:k<l.length):(l.take (k+1)).flatMap f=(l.take k).flatMap f++f (l.getD k 0):=by
 rw [ER h,OQ];simp
theorem xV {R:Room} {n:Nat} {j:Nat} (_hn:n<9) (h:j<(Z0 R n).length):(Z0 R n).getD j 0<9∧(R.sub n ((Z0 R n).getD j 0)).there=true:=by
 refine ⟨Hk h,?_⟩;rw [SC,Vb h];have:=(Z1g.1 (PA h)).2;simp only [Zv,UR,Wz] at this;exact this.2
theorem ME (s:Src) (on:Bool):∀ j,j<5→M9 {s with ZE:=on} j=if j=4 then .bool on else M9 s j:=by
 intro j hj;have:j=0∨j=1∨j=2∨j=3∨j=4:=by omega
 rcases this with rfl|rfl|rfl|rfl|rfl <;> rfl
theorem kH (b:Nat) (R:Room) (n:Nat) (w:World) (hR:ZT w b R) (hn:n<9) :
  Calls Tryz.prog 140 (Jh (some ⟨b,0,none⟩) n true) w fun e w'=>(∃ v,e = .returned v∧YF w' v (mute R n true).1)∧ZT w' b (mute R n true).2∧Fr w (· = b) w w':=by
 have hb:=hR.lt;obtain ⟨s0,s1,s2,s3,s4⟩:=hR.ML hn;have f4:=hR.Yz (9+n*5+4);have KG:=Zh (hR.TI hn (i:=4) Zo (ME (R.src n) true) (hR.rows n hn));have HM0:Hid (mute R n true=((Z0 (R.Y5 n {R.src n with ZE:=true}) n).flatMap (Y0 (R.Y5 n {R.src n with ZE:=true}) n true),R.Y5 n {R.src n with ZE:=true})):=rfl;clear s0 s1 s2 s3;generalize R.Y5 n {R.src n with ZE:=true}=R1 at *
 have CS:=Zh (F_ b R1 n _ KG.o);have HM:Hid (∀ j,j<(Z0 R1 n).length→(Z0 R1 n).getD j 0<9):=fun j h=>Hk h
 have HL:=Pq R1 n;have HT:Hid (∀ k,k<(Z0 R1 n).length→((Z0 R1 n).take (k+1)).flatMap (Y0 R1 n true)=((Z0 R1 n).take k).flatMap (Y0 R1 n true)++[⟨6,(Z0 R1 n).getD k 0,n,0,0⟩]):=fun k h=>MW _ h
 have HTL:Hid (∀ k,(((Z0 R1 n).take k).flatMap (Y0 R1 n true)).length≤2*((Z0 R1 n).take k).length):=fun k=>Sj _ _ _ _
 clear hR;generalize Z0 R1 n=L at *
 generalize Y0 R1 n true=f at *
 go_enter Tryz.func140,Tryz.ntmps140;go_wp2_with fail
 refine CS.o.mono ?_;rintro e w1 ⟨⟨lv,rfl,ZY⟩,YY⟩;have U':=Zh ZY;have HB:=Zh YY;have TR:w.heap.size≤w1.heap.size:=by have:=YY.size;rw [size_setCell] at this;exact this
 have JT:Hid (Fr w (· = b) w w1):=((Fr.refl w.heap.size (· = b) w).setAt _ _).trans ((Fr.Z7 _ YY).mono (by rw [size_setCell];exact Zw _) (fun _ _ h=>h));have BB:=Zh (KG.o.below YY);clear YY HB;rcases Nat.eq_zero_or_pos L.length with h0|h0
 ·exact Yx85
 ·obtain ⟨g,off,cap,rfl,hg,Yu⟩:=Tb ZY h0;have HC:=Zh Yu;clear ZY Yu;go_wp2_with fail
  go_loopw [7,22] (fun v i w'=>∃ k:Nat,k≤L.length∧i = .int .i64 k∧Fr w (· = b) w w'∧Row w' 3 (.slice (some ⟨g,off,none⟩) L.length cap) L.length (ints L)∧ZT w' b R1∧w'.ownsRow w 158 5 v ((L.take k).flatMap f).length (((L.take k).flatMap f).flatMap Z9)) (fun _ i _=>L.length-(intOf i).toNat)
  case atStart=>exact ⟨0,Zo,rfl,JT.o,U'.o,BB.o,TY _ _ _ _⟩
  case round=>
   obtain ⟨k,hk,rfl,Wu,ZY,Xp,YH⟩:=hrel;have T8:=Zh Wu;have QK:=Zh ZY;have Xy:=Zh Xp;have Yh:=Zh YH;clear Wu YH Xp;by_cases VK:k<L.length
   ·obtain ⟨g',off',cap',e1,hg',Yu⟩:=Tb ZY h0;cases e1;have hc:=Yu k VK;have hp:=HM.o k VK;have HS:=Zh (HT.o k VK);have Bt:=HTL.o k;rw [S4] at Bt;clear Yu ZY;generalize L.getD k 0=p at *
    generalize (L.take k).flatMap f=G at *
    go_wp2_with (at_builtin;refine YV rfl (.tmp 27) (.tmp 31) 98 rfl w.heap.size XM _ G.length (G.flatMap Z9) rfl ?a1 _ 1 ([⟨6,p,n,0,0⟩].flatMap Z9) rfl ?a2 rfl ?a4 ?a5 ?a6 ?a7 (fun v' w3 HO HG=>?_))
    case a1=>exact Yh.o.alloc _
    case a2=>exact Yr _ _ 1 _ ([⟨6,p,n,0,0⟩].flatMap Z9) Zd rfl
    case a4=>exact X_ _
    case a5=>omega
    case a6=>omega
    case a7=>have h1:=T8.o.size;simp;omega
    go_roundw
    case rel=>
     have h1:=T8.o.size;have Sc:=Yh.o.alloc (.cells ([⟨6,p,n,0,0⟩].flatMap Z9).toArray 158);have W8:=Z' wr (.cells ([⟨6,p,n,0,0⟩].flatMap Z9).toArray 158);refine ⟨k+1,Zo,Zn,?_,?_,?_,?_⟩
     ·exact (T8.o.alloc Zo _).grown HG.o Ug (YL Yh.o)
     ·exact Row.grown (QK.o.below W8) Sc HG.o Zd
     ·exact ZT.grown (Xy.o.below W8) Sc HG.o hb Zd
     ·rw [HS.o,UE,OQ];exact HO.o
    case measure=>simp [intOf];omega
   ·exact fM
theorem pE (b:Nat) (R:Room) (n:Nat) (w:World) (hR:ZT w b R) (hn:n<9) (Ta:∀ p,p<9→(R.sub n p).there=true→0≤(R.sub n p).want∧(R.sub n p).want<(R.src n).ss.length) :
  Calls Tryz.prog 140 (Jh (some ⟨b,0,none⟩) n false) w fun e w'=>(∃ v,e = .returned v∧YF w' v (mute R n false).1)∧ZT w' b (mute R n false).2∧Fr w (· = b) w w':=by
 have hb:=hR.lt;obtain ⟨s0,s1,s2,s3,s4⟩:=hR.ML hn;have f4:=hR.Yz (9+n*5+4);have KG:=Zh (hR.TI hn (i:=4) Zo (ME (R.src n) false) (hR.rows n hn));have HM0:Hid (mute R n false=((Z0 (R.Y5 n {R.src n with ZE:=false}) n).flatMap (Y0 (R.Y5 n {R.src n with ZE:=false}) n false),R.Y5 n {R.src n with ZE:=false})):=rfl
 have y_:Hid (∀ p,p<9→((R.Y5 n {R.src n with ZE:=false}).sub n p).there=true→0≤((R.Y5 n {R.src n with ZE:=false}).sub n p).want∧((R.Y5 n {R.src n with ZE:=false}).sub n p).want<((R.Y5 n {R.src n with ZE:=false}).src n).ss.length):=by
  intro p hp ht;rw [SQ];exact Ta p hp ht
 clear s0 s1 s2 s3 Ta;generalize R.Y5 n {R.src n with ZE:=false}=R1 at *
 have CS:=Zh (F_ b R1 n _ KG.o);have HM:Hid (∀ j,j<(Z0 R1 n).length→(Z0 R1 n).getD j 0<9∧(R1.sub n ((Z0 R1 n).getD j 0)).there=true):=fun j h=>xV hn h
 have HL:=Pq R1 n;have HT:Hid (∀ k,k<(Z0 R1 n).length→((Z0 R1 n).take (k+1)).flatMap (Y0 R1 n false)=((Z0 R1 n).take k).flatMap (Y0 R1 n false)++[⟨7,(Z0 R1 n).getD k 0,n,0,0⟩]++waits R1 ((Z0 R1 n).getD k 0) n):=fun k h=>by rw [MW _ h,gb];rfl
 have HTL:Hid (∀ k,(((Z0 R1 n).take k).flatMap (Y0 R1 n false)).length≤2*((Z0 R1 n).take k).length):=fun k=>Sj _ _ _ _
 have mH:Hid (∀ p,(waits R1 p n).length≤1):=fun p=>by unfold waits;split <;> simp
 clear hR;generalize Z0 R1 n=L at *
 generalize Y0 R1 n false=f at *
 go_enter Tryz.func140,Tryz.ntmps140;go_wp2_with fail
 refine CS.o.mono ?_;rintro e w1 ⟨⟨lv,rfl,ZY⟩,YY⟩;have U':=Zh ZY;have HB:=Zh YY;have TR:w.heap.size≤w1.heap.size:=by have:=YY.size;rw [size_setCell] at this;exact this
 have JT:Hid (Fr w (· = b) w w1):=((Fr.refl w.heap.size (· = b) w).setAt _ _).trans ((Fr.Z7 _ YY).mono (by rw [size_setCell];exact Zw _) (fun _ _ h=>h));have BB:=Zh (KG.o.below YY);clear YY HB;rcases Nat.eq_zero_or_pos L.length with h0|h0
 ·exact Yx85
 ·obtain ⟨g,off,cap,rfl,hg,Yu⟩:=Tb ZY h0;have HC:=Zh Yu;clear ZY Yu;go_wp2_with fail
  go_loopw [7,22] (fun v i w'=>∃ k:Nat,k≤L.length∧i = .int .i64 k∧Fr w (· = b) w w'∧Row w' 3 (.slice (some ⟨g,off,none⟩) L.length cap) L.length (ints L)∧ZT w' b R1∧w'.ownsRow w 158 5 v ((L.take k).flatMap f).length (((L.take k).flatMap f).flatMap Z9)) (fun _ i _=>L.length-(intOf i).toNat)
  case atStart=>exact ⟨0,Zo,rfl,JT.o,U'.o,BB.o,TY _ _ _ _⟩
  case round=>
   obtain ⟨k,hk,rfl,Wu,ZY,Xp,YH⟩:=hrel;have T8:=Zh Wu;have QK:=Zh ZY;have Xy:=Zh Xp;have Yh:=Zh YH;clear Wu YH Xp;by_cases VK:k<L.length
   ·obtain ⟨g',off',cap',e1,hg',Yu⟩:=Tb ZY h0;cases e1;have hc:=Yu k VK;have HP:=Zh (HM.o k VK);have HS:=Zh (HT.o k VK);have Bt:=HTL.o k;have HWLk:=mH.o (L.getD k 0);rw [S4] at Bt;clear Yu ZY;generalize L.getD k 0=p at *
    generalize (L.take k).flatMap f=G at *
    have h1:=T8.o.size;have CW:Hid (∀ w3,ZT w3 b R1→Calls Tryz.prog 141 (Qu (some ⟨b,0,none⟩) p n) w3 fun e w'=>(∃ v,e = .returned v∧YF w' v (waits R1 p n))∧Below w3 w3 w'):=fun w3 h3=>Ku b R1 p n w3 h3 hn HP.o.1 (y_.o p HP.o.1 HP.o.2)
    have NH:=Zh (Yh.o.alloc (.cells ([⟨7,p,n,0,0⟩].flatMap Z9).toArray 158));have R6:=Zh (Z' wr (.cells ([⟨7,p,n,0,0⟩].flatMap Z9).toArray 158));generalize waits R1 p n=Wt at *
    go_wp2_with (first|(at_builtin;refine YV rfl (.tmp 33) (.tmp 37) 98 rfl w.heap.size XM _ G.length (G.flatMap Z9) rfl ?a1 _ 1 ([⟨7,p,n,0,0⟩].flatMap Z9) rfl ?a2 rfl ?a4 ?a5 ?a6 ?a7 (fun v' w3 HO HG=>?_))|(go_at_call 141;refine (CW.o _ (ZT.grown (Xy.o.below R6.o) NH.o HG.o hb Zd)).mono ?_;rintro e w4 ⟨⟨tv,rfl,S3⟩,Oj⟩;have FK:=Zh S3;have Ux:=Zh Oj;clear S3 Oj)|(at_builtin;refine YV rfl (.tmp 39) (.tmp 43) 98 rfl w.heap.size XM _ (G++[YB.mk 7 p n 0 0]).length ((G++[YB.mk 7 p n 0 0]).flatMap Z9) rfl ?b1 _ Wt.length (Wt.flatMap Z9) rfl ?b2 ?b3 ?b4 ?b5 ?b6 ?b7 (fun v' w5 fk iD=>?_)))
    case a1=>exact Yh.o.alloc _
    case a2=>exact Yr _ _ 1 _ ([⟨7,p,n,0,0⟩].flatMap Z9) Zd rfl
    case a4=>exact X_ _
    case a5=>omega
    case a6=>omega
    case a7=>simp;omega
    case b1=>rw [UE,OQ];exact Zx HO.o Ux.o
    case b2=>exact FK.o
    case b3=>exact VT _
    case b4=>exact X_ _
    case b5=>simp;omega
    case b6=>simp;omega
    case b7=>have h2:=HG.o.size;have h3:=Ux.o.size;simp at h2;omega
    go_roundw
    case rel=>
     have h2:=HG.o.size;have h3:=Ux.o.size;simp at h2;have iJ:=Zx HO.o Ux.o;refine ⟨k+1,Zo,Zn,?_,?_,?_,?_⟩
     ·have g1:=(T8.o.alloc Zo _).grown HG.o Ug (YL Yh.o);have g2:=g1.trans ((Fr.Z7 _ Ux.o).mono Zo (fun _ _ h=>h));exact g2.grown iD.o Zo (YL HO.o)
     ·exact Row.grown ((Row.grown (QK.o.below R6.o) NH.o HG.o Zd).below Ux.o) iJ iD.o Zd
     ·exact ZT.grown ((ZT.grown (Xy.o.below R6.o) NH.o HG.o hb Zd).below Ux.o) iJ iD.o hb Zd
     ·rw [HS.o,UE,OQ];exact fk.o
    case measure=>simp [intOf];omega
   ·exact fM
theorem QY (w:World) (e:TypeId) (size n m:Nat) (xs:List Value) (hl:xs.length=n*size) (hn:n≤maxLen) (hm:m=w.heap.size):(w.alloc (.cells xs.toArray e)).ownsRow m e size (.slice (some ⟨m,0,none⟩) n n) n xs:=by
 subst hm;exact ⟨hl,.inr ⟨w,n,xs.toArray,rfl,Zw _,(by show (w.heap.push _)[w.heap.size]?=_;simp),Zw _,hn,by simp [hl],by rw [FL (by simp [hl])]⟩⟩
theorem ZT.alloc {w:World} {b:Nat} {R:Room} (h:ZT w b R) (o:Obj):ZT (w.alloc o) b R:=h.below (Z' _ _)
theorem ZT.drew {w:World} {b:Nat} {R:Room} (h:ZT w b R):ZT w.drew b R:=h.below (YJ _ _).drew
theorem ZT.drewN {w:World} {b:Nat} {R:Room} (h:ZT w b R) (q:Nat):ZT (w.drewN q) b R:=h.below (below_drewN (YJ _ _) q)
theorem Xd {base:Nat} {e:TypeId} {size:Nat} {v:Value} {n:Nat} {xs:List Value} {w:World} (h:w.ownsRow base e size v n xs):w.drew.ownsRow base e size v n xs:=Zx h (YJ _ _).drew
theorem Row.drew {w:World} {e:TypeId} {v:Value} {n:Nat} {xs:List Value} (h:Row w e v n xs):Row w.drew e v n xs:=h.below (YJ _ _).drew
theorem Fr.drewN {B:Nat} {S:Nat→Prop} {a w:World} (h:Fr B S a w) (q:Nat):Fr B S a (w.drewN q):=h.trans (Fr.Z7 S (below_drewN (YJ _ _) q))
theorem DU (b:Nat) (R:Room) (o:Op) (sa ba:Option Addr) (sl sc bl bc:Nat) (w:World) (hR:ZT w b R) (hs:1≤o.source∧o.source<9) (hp:1≤o.peer∧o.peer<9) (hq:0≤o.ZH∧o.ZH<(R.src o.source.toNat).ss.length) :
  Calls Tryz.prog 138 (Qi (some ⟨b,0,none⟩) (Jo o sa sl sc ba bl bc)) w fun e w'=>(∃ v,e = .returned v∧YF w' v (begin R o).1)∧ZT w' b (begin R o).2∧Fr w (· = b) w w':=by
 have hb:=hR.lt;obtain ⟨k,p,n,q,nm,ss⟩:=o;obtain ⟨n,rfl⟩:=Rf (show 0≤n by have:=hs.1;dsimp only at this;omega);obtain ⟨p,rfl⟩:=Rf (show 0≤p by have:=hp.1;dsimp only at this;omega);dsimp only at hs hp hq ⊢;rw [Wz] at hq;have hn:n<9:=by omega
 have LJ:p<9:=by omega
 obtain ⟨c0,c1,c2⟩:=hR.Hi hn LJ;obtain ⟨s0,s1,s2,s3,s4⟩:=hR.ML hn;have f0:=hR.Yz (54+n*27+p*3);have f1:=hR.Yz (54+n*27+p*3+1);have f2:=hR.Yz (54+n*27+p*3+2);clear s0 s1 s2 s3 s4;have KG:=Zh (hR.ZP hn LJ ⟨true,false,q⟩);have YY:=KG.o.lt;obtain ⟨s0,s1,s2,s3,s4⟩:=KG.o.ML hn;have Vk:Hid (begin R ⟨k,p,n,q,nm,ss⟩=(⟨1,p,n,q,0⟩ :: (if (R.src n).ZE then [⟨6,p,n,0,0⟩] else [asks (R.ZP n p ⟨true,false,q⟩) p n]),R.ZP n p ⟨true,false,q⟩)):=rfl
 have CA:Hid (∀ w1,ZT w1 b (R.ZP n p ⟨true,false,q⟩)→Calls Tryz.prog 166 (Qu (some ⟨b,0,none⟩) p n) w1 fun e w'=>e = .returned (V4 (asks (R.ZP n p ⟨true,false,q⟩) p n))∧Below w1 w1 w'):=
  fun w1 h=>zr b _ p n w1 h hn LJ (by rw [Wf];exact hq)
 have T8:Hid (Fr w (· = b) w (((w.setCell ⟨b,54+n*27+p*3,none⟩ (.bool true)).setCell ⟨b,54+n*27+p*3+1,none⟩ (.bool false)).setCell ⟨b,54+n*27+p*3+2,none⟩ (.int .i64 q))):=(((Fr.refl _ _ _).setAt _ _).setAt _ _).setAt _ _;have Yh:Hid (∀ W:World,W.heap.size=w.heap.size→∀ box:Obj,((W.alloc box).alloc (.cells ([YB.mk 1 p n q 0].flatMap Z9).toArray 158)).ownsRow (w.heap.size+1) 158 5 (.slice (some ⟨w.heap.size+1,0,none⟩) 1 1) 1 ([YB.mk 1 p n q 0].flatMap Z9)):=fun W hW box=>QY _ _ 5 1 _ _ rfl Zd (by simp [hW])
 have oD:((R.ZP n p ⟨true,false,q⟩).src n).ZE=(R.src n).ZE:=rfl;rw [oD] at s4;clear s0 s1 s2 s3 oD hR hq;unfold V4 at CA;generalize asks (R.ZP n p ⟨true,false,q⟩) p n=A at *
 generalize R.ZP n p ⟨true,false,q⟩=R1 at *
 obtain ⟨a1,a2,a3,a4,a5⟩:=A;dsimp only at *
 cases hm:(R.src n).ZE
 ·rw [hm] at s4;have HF:Hid (begin R ⟨k,p,n,q,nm,ss⟩=([⟨1,p,n,q,0⟩,⟨a1,a2,a3,a4,a5⟩],R1)):=by show _=_;rw [Vk.o,hm];rfl
  clear hm;go_enter Tryz.func138,Tryz.ntmps138;go_wp2
  go_region
  go_wp2
  go_region
  go_wp2_with (first|(go_at_call 166;refine (CA.o _ mR).mono ?_;rintro e w2 ⟨rfl,Y7⟩;have X8:=Zh Y7;clear Y7)|(at_builtin;refine YV rfl (.tmp 43) (.tmp 50) 98 rfl (w.heap.size+1) XM _ 1 ([⟨1,p,n,q,0⟩].flatMap Z9) rfl ?a1 _ 1 ([⟨a1,a2,a3,a4,a5⟩].flatMap Z9) rfl ?a2 rfl ?a4 ?a5 ?a6 ?a7 (fun v' w3 HO HG=>?_)))
  case a1=>exact (Zx (Xd (Xd (QY _ _ 5 1 (w.heap.size+1) ([⟨1,p,n,q,0⟩].flatMap Z9) rfl Zd Zi))) X8.o).alloc _
  case a2=>exact Yr _ _ 1 _ ([⟨a1,a2,a3,a4,a5⟩].flatMap Z9) Zd rfl
  case a4=>exact X_ _
  case a5=>omega
  case a6=>omega
  case a7=>have h2:=X8.o.size;simp at h2 ⊢;omega
  go_ret;rw [HF.o];have h2:=X8.o.size;simp at h2;have YH:=(Zx (Xd (Xd (QY _ 158 5 1 (w.heap.size+1) ([⟨1,p,n,q,0⟩].flatMap Z9) rfl Zd Zi))) X8.o).alloc (.cells (Qh a1 a2 a3 a4 a5) 158);refine ⟨⟨_,rfl,Row.Z6 HO.o⟩,?_,?_⟩
  ·exact ZT.grown (ZT.alloc (ZT.below mR X8.o) _) YH HG.o Zo Zd
  ·refine Fr.grown (Fr.alloc (Fr.trans ?_ ((Fr.Z7 _ X8.o).mono (B':=w.heap.size) Ug (fun _ _ h=>h))) Zo _) HG.o Ug (fun k hk=>by have:=YL YH k hk;omega);exact (((T8.o.alloc Zi _).alloc Zi _).drew).drew
 ·rw [hm] at s4;have HF:Hid (begin R ⟨k,p,n,q,nm,ss⟩=([⟨1,p,n,q,0⟩,⟨6,p,n,0,0⟩],R1)):=by show _=_;rw [Vk.o,hm];rfl
  clear hm;go_enter Tryz.func138,Tryz.ntmps138;go_wp2
  go_region
  go_wp2
  go_region
  go_wp2_with (at_builtin;refine YV rfl (.tmp 35) (.tmp 41) 98 rfl (w.heap.size+1) XM _ 1 ([⟨1,p,n,q,0⟩].flatMap Z9) rfl ?a1 _ 1 ([⟨6,p,n,0,0⟩].flatMap Z9) rfl ?a2 rfl ?a4 ?a5 ?a6 ?a7 (fun v' w3 HO HG=>?_))
  case a1=>exact Xd (Xd ((Yh.o _ Zi _).alloc _))
  case a2=>exact Row.drew (Row.drew (Yr _ _ 1 _ ([⟨6,p,n,0,0⟩].flatMap Z9) Zd Zi))
  case a4=>exact X_ _
  case a5=>omega
  case a6=>omega
  case a7=>simp
  go_ret;rw [HF.o];refine ⟨⟨_,rfl,Row.Z6 HO.o⟩,?_,?_⟩
  ·exact ZT.grown mR (by exact Xd (Xd ((Yh.o _ Zi _).alloc _))) HG.o (by omega:b<w.heap.size+1) Zd
  ·refine Fr.grown ?_ HG.o Ug (fun k hk=>by have hk:some (w.heap.size+1)=some k:=hk;cases hk;omega);exact ((((T8.o.alloc Zi _).alloc Zi _).alloc Ug _).drew).drew
end Go.Proofs.Rm
namespace Go.Proofs.Rm
open Go.RowKit Go.Proofs.Heap Go.Proofs.Mem
open Go.Proofs.NM (may key Xz)
theorem tW (b:Nat) (R:Room) (o:Op) (sa ba:Option Addr) (sc bl bc:Nat) (w:World) (hR:ZT w b R) (hT:Xz w) (UT:o.name.length<9223372036854775807) (hRn:∀ p,(R.names p).length<9223372036854775807)
  (ZY:XR w (.slice sa o.ZK.length sc) o.ZK.length (YO o.ZK)) :
  Calls Tryz.prog 109 (Qi (some ⟨b,0,none⟩) (Jo o sa o.ZK.length sc ba bl bc)) w fun e w'=>e = .returned (.int .i64 (X4 R o))∧Below w w w':=by
 have CJ:=Zh (fun (w1:World) (h:Below w w w1) (hp:1≤o.peer∧o.peer<9)=>sP b R o sa ba o.ZK.length sc bl bc w1 (hR.below h) hp (Utf8Tabs_below hT h) UT hRn);have CP:=Zh (fun (w1:World) (h:Below w w w1) (hs:1≤o.source∧o.source<9)=>Fu b R o sa ba sc bl bc w1 (hR.below h) hs (ZY.below h));have CA:=Zh (fun (w1:World) (h:Below w w w1) (hs:1≤o.source∧o.source<9) (hp:1≤o.peer∧o.peer<9)=>rQ b R o sa ba o.ZK.length sc bl bc w1 (hR.below h) hs hp);have CT:=Zh (fun (w1:World) (h:Below w w w1)=>Ty b R o.peer w1 (hR.below h));have C1:=Zh (fun (w1:World)=>Me o.peer 9 w1);have C2:=Zh (fun (w1:World)=>Me o.source 9 w1);obtain ⟨kd,p,n,q,nm,ss⟩:=o;have hb:=hR.lt
 have HW:Hid (X4 R ⟨kd,p,n,q,nm,ss⟩=if kd<2∨12<kd then 4
  else if !VE p 9 then 5
  else if kd=2 then MA R ⟨kd,p,n,q,nm,ss⟩
  else if !Y_ R p then 8
  else if kd=3 then 0
  else if !VE n 9 then 5
  else if kd=4 then VR R ⟨kd,p,n,q,nm,ss⟩
  else if !(R.src n.toNat).there then 8
  else about R ⟨kd,p,n,q,nm,ss⟩):=rfl
 have HI1:=Zh (Xn p 9);have HI2:=Zh (Xn n 9);have HR:=Zh hR;dsimp only at *
 clear hR hT UT hRn ZY;generalize X4 R ⟨kd,p,n,q,nm,ss⟩=vq at *
 generalize MA R ⟨kd,p,n,q,nm,ss⟩=jn at *
 generalize VR R ⟨kd,p,n,q,nm,ss⟩=pb at *
 generalize about R ⟨kd,p,n,q,nm,ss⟩=ab at *
 generalize Y_ R p=jd at *
 by_cases h1:kd<2
 ·have HF:Hid (vq=4):=by show _=_;rw [HW.o,ZR (Ws h1)]
  go_enter Tryz.func109,Tryz.ntmps109;go_wp2;go_ret;exact ⟨YW HF.o.symm,Z' _ _⟩
 by_cases h2:12<kd
 ·have HF:Hid (vq=4):=by show _=_;rw [HW.o,ZR (Wh h2)]
  go_enter Tryz.func109,Tryz.ntmps109;go_wp2;go_ret;exact ⟨YW HF.o.symm,Z' _ _⟩
 have DG:Hid (vq=if !VE p 9 then 5
  else if kd=2 then jn
  else if !jd then 8
  else if kd=3 then 0
  else if !VE n 9 then 5
  else if kd=4 then pb
  else if !(R.src n.toNat).there then 8
  else ab):=by show _=_;rw [HW.o,Z4 Zo]
 clear HW;cases kf:VE p 9
 ·have HF:Hid (vq=5):=by show _=_;rw [DG.o,kf];rfl
  rw [kf] at C1;clear kf DG;go_enter Tryz.func109,Tryz.ntmps109;go_wp2_with (go_at_call 111;refine (C1.o _).mono ?_;rintro e w1 ⟨rfl,rfl⟩)
  go_ret;exact ⟨YW HF.o.symm,Z' _ _⟩
 have LJ:=HI1.o.1 kf;rw [kf] at C1 DG;clear kf HI1;by_cases h3:kd=2
 ·subst h3;have HF:Hid (vq=jn):=by show _=_;rw [DG.o];rfl
  clear DG;go_enter Tryz.func109,Tryz.ntmps109;go_wp2_with (first|(go_at_call 111;refine (C1.o _).mono ?_;rintro e w1 ⟨rfl,rfl⟩)|(go_at_call 133;refine (CJ.o _ (Z' _ _) LJ).mono ?_;rintro e w1 ⟨rfl,YY⟩))
  exact jg
 have qB:Hid (vq=if !jd then 8
  else if kd=3 then 0
  else if !VE n 9 then 5
  else if kd=4 then pb
  else if !(R.src n.toNat).there then 8
  else ab):=by show _=_;rw [DG.o];simp [h3]
 have b3:(kd == 2)=false:=by rw [WR];exact h3
 clear DG h3;cases jd
 ·have HF:Hid (vq=8):=by show _=_;rw [qB.o];rfl
  exact Yx89
 by_cases h4:kd=3
 ·subst h4;have HF:Hid (vq=0):=by show _=_;rw [qB.o];rfl
  exact Yx89
 have b4:(kd == 3)=false:=by rw [WR];exact h4
 have bw:Hid (vq=if !VE n 9 then 5
  else if kd=4 then pb
  else if !(R.src n.toNat).there then 8
  else ab):=by show _=_;rw [qB.o];simp [h4]
 clear qB h4;cases GA:VE n 9
 ·have HF:Hid (vq=5):=by show _=_;rw [bw.o,GA];rfl
  rw [GA] at C2;clear GA bw;go_enter Tryz.func109,Tryz.ntmps109;go_wp2_with fail
  refine (C1.o _).mono ?_;rintro e w1 ⟨rfl,rfl⟩;go_wp2_with (first|(go_at_call 80;refine (CT.o _ (Z' _ _)).mono ?_;rintro e w1 ⟨rfl,rfl⟩)|(go_at_call 111;refine (C2.o _).mono ?_;rintro e w1 ⟨rfl,rfl⟩))
  go_ret;exact ⟨YW HF.o.symm,Z' _ _⟩
 have H8:=HI2.o.1 GA;rw [GA] at C2 bw;clear GA HI2;by_cases h5:kd=4
 ·subst h5;have HF:Hid (vq=pb):=by show _=_;rw [bw.o];rfl
  clear bw;go_enter Tryz.func109,Tryz.ntmps109;go_wp2_with fail
  refine (C1.o _).mono ?_;rintro e w1 ⟨rfl,rfl⟩;go_wp2_with (first|(go_at_call 80;refine (CT.o _ (Z' _ _)).mono ?_;rintro e w1 ⟨rfl,rfl⟩)|(go_at_call 111;refine (C2.o _).mono ?_;rintro e w1 ⟨rfl,rfl⟩)|(go_at_call 134;refine (CP.o _ (Z' _ _) H8).mono ?_;rintro e w1 ⟨rfl,YY⟩))
  exact jg
 have HW5:Hid (vq=if !(R.src n.toNat).there then 8 else ab):=by show _=_;rw [bw.o];simp [h5]
 have b5:(kd == 4)=false:=by rw [WR];exact h5
 clear bw h5;obtain ⟨n,rfl⟩:=Rf (show 0≤n by omega);rw [Wz] at HW5;obtain ⟨s0,s1,s2,s3,s4⟩:=HR.o.ML (n:=n) Zo;clear s1 s2 s3 s4;cases ht:(R.src n).there
 ·have HF:Hid (vq=8):=by show _=_;rw [HW5.o,ht];rfl
  rw [ht] at s0;clear ht HW5;go_enter Tryz.func109,Tryz.ntmps109;go_wp2_with fail
  refine (C1.o _).mono ?_;rintro e w1 ⟨rfl,rfl⟩;go_wp2_with (first|(go_at_call 80;refine (CT.o _ (Z' _ _)).mono ?_;rintro e w1 ⟨rfl,rfl⟩)|(go_at_call 111;refine (C2.o _).mono ?_;rintro e w1 ⟨rfl,rfl⟩))
  go_quiet (fail)
  go_wp2;go_ret;exact ⟨YW HF.o.symm,below_drewN (Z' _ _) _⟩
 ·have HF:Hid (vq=ab):=by show _=_;rw [HW5.o,ht];rfl
  rw [ht] at s0;clear ht HW5;go_enter Tryz.func109,Tryz.ntmps109;go_wp2_with fail
  refine (C1.o _).mono ?_;rintro e w1 ⟨rfl,rfl⟩;go_wp2_with (first|(go_at_call 80;refine (CT.o _ (Z' _ _)).mono ?_;rintro e w1 ⟨rfl,rfl⟩)|(go_at_call 111;refine (C2.o _).mono ?_;rintro e w1 ⟨rfl,rfl⟩))
  go_quiet (fail)
  go_wp2_with (go_at_call 135;refine (CA.o _ (below_drewN (Z' _ _) _) H8 LJ).mono ?_;rintro e w1 ⟨rfl,YY⟩)
  go_ret;exact ⟨YW HF.o.symm,(below_drewN (Z' _ _) _).trans (YY.mono Zi)⟩
end Go.Proofs.Rm
