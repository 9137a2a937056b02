/- Several texts in one: The walks of package label and of the reference's names: each function once. The walks of package label and of the reference's names that call the library: each function once. The walks of package room, each function once: joins. The walks of package room, each function once: leave. The walks of package room, each function once: mute. The walks of package room, each function once: begin. The walks of package room, each function once: wrong, Gone, New. -/
import Derived.Test.YtpdjhlcbcomdkaaGreatDoorChecked
import Derived.WalkKit
import Derived.Lib.Walk
import Derived.Lib.Hide
import Derived.Lib.RuneCount
import Derived.Laws.RangeAny
import Derived.LoopTactic
import Derived.Test.YtpdjhlcbcomdkaaGreatDoorShelf
import Derived.Shelf.GgClosure.Gives
import Derived.Deep.RegionHeld3
import Derived.Test.YtpdjhlcbcomdkaaGreatDoorV01
import Derived.Test.YtpdjhlcbcomdkaaGreatDoorV02
import Derived.Test.YtpdjhlcbcomdkaaGreatDoorV03
import Derived.Test.YtpdjhlcbcomdkaaGreatDoorV05
import Derived.Test.YtpdjhlcbcomdkaaGreatDoorV08
set_option linter.unusedVariables false
set_option linter.unusedSimpArgs false
namespace Go.Proofs.Lab
open Go.RowKit Go.Lib Go.Proofs.Mem
theorem below_iter (w:World) (s:ByteArray) (p:Nat):Below w.heap.size w (w.iter s p):=(Below.refl _ _).alloc (Nat.le_refl _) _
theorem ret_str {a b:ByteArray} (h:a=b):Ending.returned (.string a) = .returned (.string b):=by rw [h]
theorem ret_bool {a b:Bool} (h:a=b):Ending.returned (.bool a) = .returned (.bool b):=by rw [h]
theorem ret_int {k:IntKind} {a b:Int} (h:a=b):Ending.returned (.int k a) = .returned (.int k b):=by rw [h]
theorem pos_facts (s:ByteArray) (k:Nat) (h:cutAt s.data.toList k<s.size):k<(rn s.data.toList).length∧cutAt s.data.toList (k+1)=cutAt s.data.toList k+(Utf8.decode s (cutAt s.data.toList k)).2∧k≤cutAt s.data.toList k∧(rn s.data.toList)[k]?=some (Utf8.decode s (cutAt s.data.toList k)):=by
 exact Yx108
theorem pos_end (s:ByteArray) (k:Nat) (h:¬cutAt s.data.toList k<s.size):(rn s.data.toList).length≤k:=by
 have hl:s.data.toList.length=s.size:=(Lib.size_eq s).symm
 have:=cutAt_lt s.data.toList k
 omega
theorem all_snoc {p:Nat × Nat→Bool} {R:List (Nat × Nat)} {k:Nat} {x:Nat × Nat} (h:(R.take k).all p=true) (hk:R[k]?=some x) (hx:p x=true):(R.take (k+1)).all p=true:=by
 rw [List.take_add_one,hk,List.all_append,h];simp [hx]
theorem all_bad {p:Nat × Nat→Bool} {R:List (Nat × Nat)} {k:Nat} {x:Nat × Nat} (hk:R[k]?=some x) (hx:p x=false):R.all p=false:=by
 rw [Bool.eq_false_iff];intro h
 have:=List.all_eq_true.1 h x (List.mem_of_getElem? hk)
 rw [hx] at this;cases this
set_option maxHeartbeats 400000 in
theorem May_any (s:ByteArray) (w:World) (hs:s.size<9223372036854775807) :
  Calls Tryz.prog 161 #[.string s] w (fun e w'=>e = .returned (.bool (may s.data.toList))∧Below w.heap.size w w'):=by
 exact Yx14
end Go.Proofs.Lab
namespace Go.Proofs.Lab
open Go.RowKit Go.Lib Go.Proofs.Mem
abbrev Tabs (w:World):Prop:=Utf8Tabs 0 1 w
theorem Key1_any (r:Int) (w:World) (h0:0≤r) (h1:r≤1114111) :
  Calls Tryz.prog 178 #[.int .i32 r] w (fun e w'=>e = .returned (.int .i32 (lowF r))∧w=w'):=by
 exact Yx47
set_option maxRecDepth 100000 in
theorem Key_any (s:ByteArray) (w:World) (hs:s.size<9223372036854775807) (hT:Tabs w) :
  Calls Tryz.prog 162 #[.string s] w (fun e w'=>e = .returned (.string (str (key s.data.toList)))∧Below w.heap.size w w'):=by
 exact Yx22
end Go.Proofs.Lab
namespace Go.Proofs.Rm
open Go.RowKit Go.Proofs.Heap Go.Proofs.Mem
open Go.Proofs.Lab (may key Tabs)
def namesArr (R:Room):Array Value:=((List.range 9).map fun j=>Value.string (str (R.names j))).toArray
theorem namesArr_size (R:Room):(namesArr R).size=9:=by simp [namesArr]
theorem namesArr_at (R:Room) (j:Nat) (h:j<9):(namesArr R)[j]?=some (.string (str (R.names j))):=by simp [namesArr,h]
set_option maxRecDepth 100000 in
set_option maxHeartbeats 4000000 in
theorem joins_any (b:Nat) (R:Room) (o:Op) (sa ba:Option Addr) (sl sc bl bc:Nat) (w:World) (hR:RoomAt w b R) (hp:1≤o.peer∧o.peer<9) (hT:Tabs w) (hnm:o.name.length<9223372036854775807) (hRn:∀ p,(R.names p).length<9223372036854775807) :
  Calls Tryz.prog 133 #[.pointer (some ⟨b,0,none⟩),.agg #[.int .i64 o.kind,.int .i64 o.peer,.int .i64 o.source,.int .i64 o.layer,.string (str o.name),.slice sa sl sc,.slice ba bl bc]] w fun e w'=>e = .returned (.int .i64 (joins R o))∧Below w.heap.size w w':=by
 have CJ:=Lib.hid (fun (w1:World) (h:Below w.heap.size w w1)=>Joined_any b R o.peer w1 (hR.below h))
 obtain ⟨kd,p,n,q,nm,ss⟩:=o
 have hb:=hR.lt
 have HJ:Hid (joins R ⟨kd,p,n,q,nm,ss⟩=if joined R p then 9 else if !may nm then 12 else if (List.range 9).any (sameKey R ⟨kd,p,n,q,nm,ss⟩) then 9 else 0):=rfl
 have CM:Hid (∀ w1,Calls Tryz.prog 161 #[.string (str nm)] w1 fun e w'=>e = .returned (.bool (may nm))∧Below w1.heap.size w1 w'):=fun w1=>Lab.May_any (str nm) w1 (by rw [str_size];exact hnm)
 have CK:Hid (∀ (s:List UInt8) w1,s.length<9223372036854775807→Below w.heap.size w w1→Calls Tryz.prog 162 #[.string (str s)] w1 fun e w'=>e = .returned (.string (str (key s)))∧Below w1.heap.size w1 w'):=fun s w1 hs h=>Lab.Key_any (str s) w1 (by rw [str_size];exact hs) (Utf8Tabs_below hT h)
 dsimp only at *
 have hcs:∀ j,j<(namesArr R).size→w.cell? ⟨b,0+j,none⟩=(namesArr R)[j]?:=by
  intro j hj
  rw [namesArr_size] at hj
  rw [Nat.zero_add,hR.namec hj,namesArr_at R j hj]
 have hinfo:(Tryz.prog.info? 143).map (·.size)=some (namesArr R).size:=by rw [namesArr_size];kernel_rfl
 have HP:Hid (∀ n:Nat,n<9→∀ w,(Instr.index 143 (.agg (namesArr R)) (.int .i64 (n:Int))).run Tryz.prog w = .ok (.string (str (R.names n))) w):=
  fun n hn w=>Load.run_index_cell w 143 9 9 (namesArr R) n _ Tryz.underlying143 hn Tryz.underlying9 rfl Yo3 _ (namesArr_at R n hn)
 have HCS:=Lib.hid hcs
 have HNL:=Lib.hid hRn
 have hnmL:=hnm
 clear hR hcs hRn hnm
 generalize namesArr R=CS at *
 generalize joins R ⟨kd,p,n,q,nm,ss⟩=jn at *
 cases hj:joined R p
 ·cases hm:may nm
  ·have HF:Hid (jn=12):=by show _=_;rw [HJ.out,hj,hm];rfl
   rw [hj] at CJ
   rw [hm] at CM
   clear hj hm HJ
   go_enter Tryz.func133,Tryz.ntmps133
   go_wp2_with (first|(go_at_call 80;refine (CJ.out _ (below_alloc _ _)).mono ?_;rintro e w1 ⟨rfl,rfl⟩)|(go_at_call 161;refine (CM.out _).mono ?_;rintro e w1 ⟨rfl,hb1⟩))
   go_ret
   exact ⟨ret_int HF.out.symm,(below_alloc _ _).trans (hb1.mono (by simp))⟩
  ·have HJ2:Hid (jn=if (List.range 9).any (sameKey R ⟨kd,p,n,q,nm,ss⟩) then 9 else 0):=by show _=_;rw [HJ.out,hj,hm];rfl
   rw [hj] at CJ
   rw [hm] at CM
   clear hj hm HJ
   have hroom:∀ w',Below w.heap.size w w'→∀ j,j<CS.size→w'.cell? ⟨b,0+j,none⟩=CS[j]?:=fun w' h j hj=>by
    rw [h.cell (p:=⟨b,0+j,none⟩) hb];exact HCS.out j hj
   have HROOM:=Lib.hid hroom
   clear hroom
   go_enter Tryz.func133,Tryz.ntmps133
   go_wp2_with (first|(go_at_call 80;refine (CJ.out _ (below_alloc _ _)).mono ?_;rintro e w1 ⟨rfl,rfl⟩)|(go_at_call 161;refine (CM.out _).mono ?_;rintro e w1 ⟨rfl,hb1⟩;have hbl1:=(below_alloc w _).trans (hb1.mono (by simp));have hc1:=HROOM.out _ hbl1;have hbox1:=hb1.cell (p:=⟨w.heap.size,4,none⟩) (by simp);simp at hbox1)|(refine Load.wpList_load_part rfl 143 (.tmp 17) rfl b 0 rfl CS (.array 9 9) hc1 Tryz.underlying143 rfl hinfo ?_))
   have hz1:w.heap.size<w1.heap.size:=by have:=hb1.size;simp at this;omega
   clear hc1 hinfo
   go_loopw [19] (fun i w'=>∃ k:Nat,k≤9∧i = .int .i64 k∧Below w.heap.size w w'∧w.heap.size<w'.heap.size∧w'.cell? ⟨w.heap.size,4,none⟩=some (.string (str nm))∧Hid (∀ j,j<k→sameKey R ⟨kd,p,n,q,nm,ss⟩ j=false)) (fun i _=>9-(intOf i).toNat)
   case atStart=>exact ⟨0,Nat.zero_le _,rfl,hbl1,hz1,hbox1,fun j hj=>by omega⟩
   case round=>
    obtain ⟨k,hk,rfl,hbl,hsz,hbox,hno⟩:=hrel
    by_cases hk9:k<9
    ·have hix:=HP.out k hk9
     have HSK:Hid (sameKey R ⟨kd,p,n,q,nm,ss⟩ k=(!(R.names k).isEmpty && decide (key (R.names k)=key nm))):=rfl
     have hkl:=HNL.out k
     have HIN:Hid (sameKey R ⟨kd,p,n,q,nm,ss⟩ k=true→jn=9):=by
      intro h
      rw [HJ2.out,if_pos]
      rw [List.any_eq_true]
      exact ⟨k,by simpa using hk9,h⟩
     generalize R.names k=nk at *
     cases hne:nk.isEmpty
     ·have e1:(str nk).toList.isEmpty=false:=by rw [str_emp];exact hne
      have CK1:=Lib.hid (fun w2 (h:Below w.heap.size w w2)=>CK.out nk w2 hkl h)
      have CK2:=Lib.hid (fun w2 (h:Below w.heap.size w w2)=>CK.out nm w2 hnmL h)
      rw [hne] at HSK
      clear hne
      by_cases hke:key nk=key nm
      ·have HF:=Lib.hid (HIN.out (by rw [HSK.out,hke];simp))
       rw [hke] at CK1
       clear hke
       go_wp2_with fail
       go_region_held3 (fun w'=>w'.cell? ⟨w.heap.size,4,none⟩=some (.string (str nm))∧Below w.heap.size w w'∧w.heap.size<w'.heap.size) (first|(refine ⟨?_,?_,?_⟩ <;> first|assumption|(refine Below.drew ?_;assumption))|go_keep) (first|(go_at_call 162;go_split_ands;refine Calls.mono (CK1.out _ Yo25) ?_;rintro e w2 ⟨rfl,hb2⟩;have hbox2:=(hb2.cell (p:=⟨w.heap.size,4,none⟩) Yo25).trans Yo25;have hbl2:=Below.trans Yo25 (hb2.mono (Nat.le_of_lt Yo25));have hsz2:=Nat.lt_of_lt_of_le Yo25 hb2.size)|(go_at_call 162;go_split_ands;refine Calls.mono (CK2.out _ Yo25) ?_;rintro e w3 ⟨rfl,hb3⟩;have hbox3:=(hb3.cell (p:=⟨w.heap.size,4,none⟩) Yo25).trans Yo25;have hbl3:=Below.trans Yo25 (hb3.mono (Nat.le_of_lt Yo25));have hsz3:=Nat.lt_of_lt_of_le Yo25 hb3.size))
       all_goals (go_wp2;go_ret;exact ⟨ret_int HF.out.symm,by assumption⟩)
      ·have HF:Hid (sameKey R ⟨kd,p,n,q,nm,ss⟩ k=false):=by show _=_;rw [HSK.out];simp [hke]
       have e3:((str (key nk)).toList == (str (key nm)).toList)=false:=by rw [beq_eq_false_iff_ne,ByteArray.toList_eq,ByteArray.toList_eq];exact hke
       clear hke
       go_wp2_with fail
       go_region_held3 (fun w'=>w'.cell? ⟨w.heap.size,4,none⟩=some (.string (str nm))∧Below w.heap.size w w'∧w.heap.size<w'.heap.size) (first|(refine ⟨?_,?_,?_⟩ <;> first|assumption|(refine Below.drew ?_;assumption))|go_keep) (first|(go_at_call 162;go_split_ands;refine Calls.mono (CK1.out _ Yo25) ?_;rintro e w2 ⟨rfl,hb2⟩;have hbox2:=(hb2.cell (p:=⟨w.heap.size,4,none⟩) Yo25).trans Yo25;have hbl2:=Below.trans Yo25 (hb2.mono (Nat.le_of_lt Yo25));have hsz2:=Nat.lt_of_lt_of_le Yo25 hb2.size)|(go_at_call 162;go_split_ands;refine Calls.mono (CK2.out _ Yo25) ?_;rintro e w3 ⟨rfl,hb3⟩;have hbox3:=(hb3.cell (p:=⟨w.heap.size,4,none⟩) Yo25).trans Yo25;have hbl3:=Below.trans Yo25 (hb3.mono (Nat.le_of_lt Yo25));have hsz3:=Nat.lt_of_lt_of_le Yo25 hb3.size))
       all_goals
        go_wp2
        go_roundw
        case rel=>exact ⟨k+1,by omega,by go_num,by assumption,by assumption,by assumption,fun j hj=>by by_cases hjk:j<k;exact hno.out j hjk;rw [show j=k by omega];exact HF.out⟩
        case measure=>simp [intOf];omega
     ·have hnk:nk=[]:=List.isEmpty_iff.1 hne
      have e1:(str nk).toList=[]:=(str_ne _).2 hnk
      have e2:(str nk).toList.isEmpty=true:=by rw [str_emp];exact hne
      have HF:Hid (sameKey R ⟨kd,p,n,q,nm,ss⟩ k=false):=by show _=_;rw [HSK.out,hne];rfl
      clear hne hnk
      go_wp2
      go_quiet (fail)
      go_wp2
      go_roundw
      case rel=>exact ⟨k+1,by omega,by go_num,below_drewN hbl _,hsz,hbox,fun j hj=>by by_cases hjk:j<k;exact hno.out j hjk;rw [show j=k by omega];exact HF.out⟩
      case measure=>simp [intOf];omega
    ·have HF:Hid (jn=0):=by
      show _=_
      rw [HJ2.out,if_neg]
      rw [List.any_eq_true]
      rintro ⟨j,hj,hj2⟩
      rw [hno.out j (by simp at hj;omega)] at hj2
      cases hj2
     go_wp2
     go_ret
     exact ⟨ret_int HF.out.symm,hbl⟩
 ·have HF:Hid (jn=9):=by show _=_;rw [HJ.out,hj];rfl
  rw [hj] at CJ
  clear hj HJ
  go_enter Tryz.func133,Tryz.ntmps133
  go_wp2_with (first|(go_at_call 80;refine (CJ.out _ (below_alloc _ _)).mono ?_;rintro e w1 ⟨rfl,rfl⟩))
  go_ret
  exact ⟨ret_int HF.out.symm,below_alloc _ _⟩
end Go.Proofs.Rm
namespace Go.Proofs.Rm
open Go.RowKit Go.Proofs.Heap Go.Proofs.Mem
theorem leave1_succ (p:Nat) (R:Room) (k:Nat):leave1 p R (k+1)=if ((leave1 p R k).2.sub k p).there then ((leave1 p R k).1++[⟨2,p,k,0,0⟩],(leave1 p R k).2.setSub k p noSub) else leave1 p R k:=rfl
theorem leave2_succ (p:Nat) (R:Room) (k:Nat):leave2 R p (k+1)=if (R.src k).there && decide ((R.src k).own=p) then ((leave2 R p k).1++(gone (leave2 R p k).2 k).1,(gone (leave2 R p k).2 k).2) else leave2 R p k:=rfl
theorem gone_len (R:Room) (n:Nat):(gone R n).1.length≤18:=by
 unfold gone
 dsimp only
 rw [goneGo_len]
 have:=subs_len R n
 omega
theorem leave1_len (p:Nat) (R:Room):∀ k,(leave1 p R k).1.length≤k
 | 0=>Nat.le_refl _
 | k+1=>by
  rw [leave1_succ]
  have:=leave1_len p R k
  split
  ·simp;omega
  ·omega
theorem leave2_len (p:Nat) (R:Room):∀ k,(leave2 R p k).1.length≤k*18
 | 0=>Nat.le_refl _
 | k+1=>by
  rw [leave2_succ]
  have:=leave2_len p R k
  have:=gone_len (leave2 R p k).2 k
  split
  ·simp;omega
  ·omega
theorem names_setName (R:Room) (p:Nat) (s:List UInt8):(R.setName p s).names p=s:=by simp [Room.setName]
theorem RoomAt.setName {w:World} {b:Nat} {R:Room} (h:RoomAt w b R) {p:Nat} (hp:p<9) (s:List UInt8):RoomAt (w.setCell ⟨b,p,none⟩ (.string (str s))) b (R.setName p s):=by
 refine h.set (by omega) (fun j hj=>?_) h.rows
 unfold roomCell
 by_cases h1:j<9
 ·rw [if_pos h1,if_pos h1]
  by_cases h2:j=p
  ·subst h2;rw [if_pos rfl,names_setName]
  ·rw [if_neg h2];simp [Room.setName,h2]
 ·rw [if_neg h1,if_neg h1,if_neg (by omega:¬j=p)];rfl
set_option maxHeartbeats 2000000 in
theorem leave_any (b:Nat) (R:Room) (p:Nat) (w:World) (hR:RoomAt w b R) (hp:p<9) :
  Calls Tryz.prog 136 #[.pointer (some ⟨b,0,none⟩),.int .i64 p] w fun e w'=>(∃ v,e = .returned v∧TurnRow w' v (leave R p).1)∧RoomAt w' b (leave R p).2∧Fr w.heap.size (· = b) w w':=by
 have hb:=hR.lt
 have HL0:Hid (leave R p=((leave1 p R 9).1++(leave2 (leave1 p R 9).2 p 9).1,(leave2 (leave1 p R 9).2 p 9).2.setName p [])):=rfl
 have HR:=Lib.hid hR
 clear hR
 go_enter Tryz.func136,Tryz.ntmps136
 go_wp2
 go_loopw [5,9] (fun v i w'=>∃ k:Nat,k≤9∧i = .int .i64 k∧Fr w.heap.size (· = b) w w'∧RoomAt w' b (leave1 p R k).2∧w'.ownsRow w.heap.size 158 5 v (leave1 p R k).1.length ((leave1 p R k).1.flatMap turnCells)) (fun _ i _=>9-(intOf i).toNat)
 case atStart=>exact ⟨0,by omega,rfl,Fr.refl _ _ _,HR.out,World.ownsRow_nil _ _ _ _⟩
 case round=>
  obtain ⟨k,hk,rfl,hfr,hroom,hown⟩:=hrel
  have HFR:=Lib.hid hfr
  have HROOM:=Lib.hid hroom
  have HOWN:=Lib.hid hown
  clear hfr hroom hown
  by_cases hk9:k<9
  ·have HS:=Lib.hid (leave1_succ p R k)
   have HGL:=leave1_len p R k
   have CE:=Lib.hid (end_any b (leave1 p R k).2 p k wr HROOM.out hk9 hp)
   obtain ⟨c0,c1,c2⟩:=HROOM.out.subc hk9 hp
   clear c1 c2
   generalize leave1 p R k=G at *
   cases ht:(G.2.sub k p).there
   ·rw [ht] at c0
    have HF:Hid (leave1 p R (k+1)=G):=by show _=_;rw [HS.out,ht];rfl
    clear ht
    go_wp2
    go_roundw
    case rel=>exact ⟨k+1,by omega,by go_num,HFR.out,by rw [HF.out];exact HROOM.out,by rw [HF.out];exact HOWN.out⟩
    case measure=>simp [intOf];omega
   ·rw [ht] at c0
    have HF:Hid (leave1 p R (k+1)=(G.1++[⟨2,p,k,0,0⟩],G.2.setSub k p noSub)):=by show _=_;rw [HS.out,ht];rfl
    clear ht
    go_wp2_with (first|(go_at_call 139;refine CE.out.mono ?_;rintro e w2 ⟨rfl,hroom2,hfr2⟩;have HROOM2:=Lib.hid hroom2;have HFR2:=Lib.hid hfr2;clear hroom2 hfr2)|(at_builtin;refine wpList_app rfl (.tmp 21) (.tmp 26) 98 rfl w.heap.size elemTurn _ G.1.length (G.1.flatMap turnCells) rfl ?a1 _ 1 ([⟨2,p,k,0,0⟩].flatMap turnCells) rfl ?a2 rfl ?a4 ?a5 ?a6 ?a7 (fun v' w3 HO HG=>?_)))
    case a1=>exact (owns_fr HOWN.out HFR2.out (fun k hk=>by omega)).alloc _
    case a2=>exact row_new' _ _ 1 _ ([⟨2,p,k,0,0⟩].flatMap turnCells) (by decide) rfl
    case a4=>exact turns_one _
    case a5=>omega
    case a6=>omega
    case a7=>have h1:=HFR.out.size;have h2:=HFR2.out.size;simp;omega
    go_roundw
    case rel=>
     have h1:=HFR.out.size
     have h2:=HFR2.out.size
     have hown2:=(owns_fr HOWN.out HFR2.out (fun k hk=>by omega)).alloc (.cells ([⟨2,p,k,0,0⟩].flatMap turnCells).toArray 158)
     have hbl:=below_alloc w2 (.cells ([⟨2,p,k,0,0⟩].flatMap turnCells).toArray 158)
     refine ⟨k+1,by omega,by go_num,?_,?_,?_⟩
     ·exact Yx114
     ·rw [HF.out]
      exact RoomAt.grown (HROOM2.out.below hbl) hown2 HG.out hb (by decide)
     ·rw [HF.out]
      dsimp only
      rw [List.length_append,List.flatMap_append]
      exact HO.out
    case measure=>simp [intOf];omega
  ·obtain rfl:k=9:=by omega
   have HGL:=leave1_len p R 9
   have HL2:Hid (∀ k,leave2 (leave1 p R 9).2 p (k+1)=if ((leave1 p R 9).2.src k).there && decide (((leave1 p R 9).2.src k).own=p) then ((leave2 (leave1 p R 9).2 p k).1++(gone (leave2 (leave1 p R 9).2 p k).2 k).1,(gone (leave2 (leave1 p R 9).2 p k).2 k).2) else leave2 (leave1 p R 9).2 p k):=fun k=>leave2_succ p _ k
   have HLL:Hid (∀ k,(leave2 (leave1 p R 9).2 p k).1.length≤k*18):=fun k=>leave2_len p _ k
   have HL20:Hid (leave2 (leave1 p R 9).2 p 0=([],(leave1 p R 9).2)):=rfl
   generalize leave1 p R 9=X at *
   have hcs:∀ j,j<(srcsArr X.2).size→wr.cell? ⟨b,9+j,none⟩=(srcsArr X.2)[j]?:=by
    intro j hj
    rw [srcsArr_size] at hj
    rw [HROOM.out.cell (by omega),srcsArr_at X.2 j hj]
   have hinfo:(Tryz.prog.info? 146).map (·.size)=some (srcsArr X.2).size:=by rw [srcsArr_size];kernel_rfl
   have HP:Hid (∀ n:Nat,n<9→∀ w,(Instr.index 146 (.agg (srcsArr X.2)) (.int .i64 (n:Int))).run Tryz.prog w = .ok (.agg #[.bool (X.2.src n).there,.int .i64 (X.2.src n).num,.int .i64 (X.2.src n).own,(X.2.src n).sv,.bool (X.2.src n).muted]) w):=
    fun n hn w=>Load.run_index_agg w 146 145 9 (srcsArr X.2) n 5 _ Tryz.underlying146 hn Tryz.underlying145 rfl Yo3 _ (srcsArr_part X.2 n hn)
   have HSV:Hid (∀ n,n<9→∃ a c,(X.2.src n).sv = .slice a (X.2.src n).ss.length c):=fun n hn=>by
    obtain ⟨a,c,h,_⟩:=HROOM.out.rows n hn
    exact ⟨a,c,h⟩
   generalize srcsArr X.2=CS at *
   obtain ⟨wo,rfl⟩:∃ wo:World,wo=wr:=⟨_,rfl⟩
   go_wp2_with (refine Load.wpList_load_part rfl 146 (.tmp 31) rfl b 9 rfl CS (.array 9 145) hcs Tryz.underlying146 rfl hinfo ?_)
   clear hcs hinfo
   go_loopw [5,33] (fun v i w'=>∃ k:Nat,k≤9∧i = .int .i64 k∧Fr w.heap.size (· = b) w w'∧RoomAt w' b (leave2 X.2 p k).2∧w'.ownsRow w.heap.size 158 5 v (X.1++(leave2 X.2 p k).1).length ((X.1++(leave2 X.2 p k).1).flatMap turnCells)) (fun _ i _=>9-(intOf i).toNat)
   case atStart=>exact ⟨0,by omega,rfl,HFR.out,by rw [HL20.out];exact HROOM.out,by rw [HL20.out,List.append_nil];exact HOWN.out⟩
   case round=>
    obtain ⟨k,hk,rfl,hfr,hroom,hown⟩:=hrel
    clear HFR HROOM HOWN HL20
    have HFR:=Lib.hid hfr
    have HROOM:=Lib.hid hroom
    have HOWN:=Lib.hid hown
    clear hfr hroom hown
    by_cases hk9:k<9
    ·have HS:=Lib.hid (HL2.out k)
     have HGL2:=HLL.out k
     have HGN:=gone_len (leave2 X.2 p k).2 k
     have hix:=HP.out k hk9
     have hsz:=HFR.out.size
     have CG:=Lib.hid (fun w1 (h:Below wr.heap.size wr w1)=>gone_any b (leave2 X.2 p k).2 k w1 (HROOM.out.below h) hk9)
     obtain ⟨sa,sc,hsv⟩:=HSV.out k hk9
     rw [hsv] at hix
     clear hsv
     generalize leave2 X.2 p k=G at *
     generalize (X.2.src k).num=u1 at *
     generalize (X.2.src k).muted=u4 at *
     generalize (X.2.src k).ss.length=ul at *
     cases ht:(X.2.src k).there
     ·have HF:Hid (leave2 X.2 p (k+1)=G):=by show _=_;rw [HS.out,ht];rfl
      rw [ht] at hix
      clear ht
      exact Yx122
     ·by_cases ho:(X.2.src k).own=p
      ·have HF:Hid (leave2 X.2 p (k+1)=(G.1++(gone G.2 k).1,(gone G.2 k).2)):=by show _=_;rw [HS.out,ht,ho];simp
       rw [ht,ho] at hix
       clear ht ho
       generalize gone G.2 k=Y at *
       go_wp2_with (first|(go_at_call 137;refine (CG.out _ (below_alloc _ _)).mono ?_;rintro e w2 ⟨⟨tv,rfl,htr⟩,hroom2,hfr2⟩;have HTR:=Lib.hid htr;have HROOM2:=Lib.hid hroom2;have HFR2:=Lib.hid hfr2;clear hroom2 hfr2 htr)|(at_builtin;refine wpList_app rfl (.tmp 46) (.tmp 49) 98 rfl w.heap.size elemTurn _ (X.1++G.1).length ((X.1++G.1).flatMap turnCells) rfl ?b1 _ Y.1.length (Y.1.flatMap turnCells) rfl ?b2 ?b3 ?b4 ?b5 ?b6 ?b7 (fun v' w3 HO HG=>?_)))
       case b1=>exact owns_fr (HOWN.out.alloc _) HFR2.out (fun k hk=>by omega)
       case b2=>exact HTR.out
       case b3=>exact turns_len _
       case b4=>exact turns_one _
       case b5=>simp;omega
       case b6=>simp;omega
       case b7=>have h2:=HFR2.out.size;simp at h2;omega
       go_roundw
       case rel=>
        have h2:=HFR2.out.size
        simp at h2
        refine ⟨k+1,by omega,by go_num,?_,?_,?_⟩
        ·have h3:=(HFR.out.alloc hsz _).trans (HFR2.out.mono Yo16 (fun _ _ h=>h))
         exact h3.grown HG.out (by omega) (own_le HOWN.out)
        ·rw [HF.out]
         exact RoomAt.grown HROOM2.out (owns_fr (HOWN.out.alloc _) HFR2.out (fun k hk=>by omega)) HG.out hb (by decide)
        ·rw [HF.out]
         dsimp only
         rw [←List.append_assoc,List.length_append,List.flatMap_append]
         exact HO.out
       case measure=>simp [intOf];omega
      ·have HF:Hid (leave2 X.2 p (k+1)=G):=by show _=_;rw [HS.out,ht];simp [ho]
       have hbq:((X.2.src k).own == (p:Int))=false:=by rw [beq_eq_false_iff_ne];exact ho
       rw [ht] at hix
       clear ht ho
       generalize (X.2.src k).own=u2 at *
       exact Yx122
    ·obtain rfl:k=9:=by omega
     have c0:=HROOM.out.namec hp
     have f0:=HROOM.out.unfrozen p
     clear HP HL2 HLL
     generalize leave2 X.2 p 9=G at *
     go_wp2
     go_ret
     rw [HL0.out]
     exact ⟨⟨_,rfl,(Row.of_owns HOWN.out).fr ((Fr.refl wr.heap.size (· = b) wr).setAt _ _) (Nat.le_refl _) (HROOM.out.typ (by decide))⟩,HROOM.out.setName hp [],HFR.out.setAt _ _⟩
end Go.Proofs.Rm
namespace Go.Proofs.Rm
open Go.RowKit Go.Proofs.Heap Go.Proofs.Mem
theorem muteTurns_len (R:Room) (n:Nat) (on:Bool) (p:Nat):(muteTurns R n on p).length≤2:=by
 unfold muteTurns waits
 split
 ·simp
 ·split <;> simp
theorem muteAll_len (R:Room) (n:Nat) (on:Bool):∀ l:List Nat,(l.flatMap (muteTurns R n on)).length≤2*l.length
 | []=>Nat.le_refl _
 | p :: l=>by
  rw [List.flatMap_cons,List.length_append,List.length_cons]
  have:=muteTurns_len R n on p
  have:=muteAll_len R n on l
  omega
theorem flat_snoc {α:Type} (f:Nat→List α) {l:List Nat} {k:Nat} (h:k<l.length):(l.take (k+1)).flatMap f=(l.take k).flatMap f++f (l.getD k 0):=by
 rw [take_snoc h,List.flatMap_append];simp
theorem subs_there {R:Room} {n:Nat} {j:Nat} (_hn:n<9) (h:j<(subs R n).length):(subs R n).getD j 0<9∧(R.sub n ((subs R n).getD j 0)).there=true:=by
 refine ⟨subs_mem h,?_⟩
 rw [List.getD_eq_getElem?_getD,List.getElem?_eq_getElem h]
 have:=(List.mem_filter.1 (List.getElem_mem h)).2
 simp only [hears,Bool.and_eq_true,Int.toNat_natCast] at this
 exact this.2
theorem srcCell_muted (s:Src) (on:Bool):∀ j,j<5→srcCell {s with muted:=on} j=if j=4 then .bool on else srcCell s j:=by
 intro j hj
 have:j=0∨j=1∨j=2∨j=3∨j=4:=by omega
 rcases this with rfl|rfl|rfl|rfl|rfl <;> rfl
set_option maxHeartbeats 2000000 in
theorem mute_on (b:Nat) (R:Room) (n:Nat) (w:World) (hR:RoomAt w b R) (hn:n<9) :
  Calls Tryz.prog 140 #[.pointer (some ⟨b,0,none⟩),.int .i64 n,.bool true] w fun e w'=>(∃ v,e = .returned v∧TurnRow w' v (mute R n true).1)∧RoomAt w' b (mute R n true).2∧Fr w.heap.size (· = b) w w':=by
 have hb:=hR.lt
 obtain ⟨s0,s1,s2,s3,s4⟩:=hR.srcc hn
 have f4:=hR.unfrozen (9+n*5+4)
 have HR1:=Lib.hid (hR.setSrcCell hn (i:=4) (by omega) (srcCell_muted (R.src n) true) (hR.rows n hn))
 have HM0:Hid (mute R n true=((subs (R.setSrc n {R.src n with muted:=true}) n).flatMap (muteTurns (R.setSrc n {R.src n with muted:=true}) n true),R.setSrc n {R.src n with muted:=true})):=rfl
 clear s0 s1 s2 s3
 generalize R.setSrc n {R.src n with muted:=true}=R1 at *
 have CS:=Lib.hid (Subs_any b R1 n _ HR1.out)
 have HM:Hid (∀ j,j<(subs R1 n).length→(subs R1 n).getD j 0<9):=fun j h=>subs_mem h
 have HL:=subs_len R1 n
 have HT:Hid (∀ k,k<(subs R1 n).length→((subs R1 n).take (k+1)).flatMap (muteTurns R1 n true)=((subs R1 n).take k).flatMap (muteTurns R1 n true)++[⟨6,(subs R1 n).getD k 0,n,0,0⟩]):=fun k h=>flat_snoc _ h
 have HTL:Hid (∀ k,(((subs R1 n).take k).flatMap (muteTurns R1 n true)).length≤2*((subs R1 n).take k).length):=fun k=>muteAll_len _ _ _ _
 clear hR
 generalize subs R1 n=L at *
 generalize muteTurns R1 n true=f at *
 go_enter Tryz.func140,Tryz.ntmps140
 go_wp2_with fail
 refine CS.out.mono ?_
 rintro e w1 ⟨⟨lv,rfl,hrow⟩,hb1⟩
 have HROW:=Lib.hid hrow
 have HB:=Lib.hid hb1
 have hsz:w.heap.size≤w1.heap.size:=by have:=hb1.size;rw [size_setCell] at this;exact this
 have HFR0:Hid (Fr w.heap.size (· = b) w w1):=((Fr.refl w.heap.size (· = b) w).setAt _ _).trans ((Fr.of_below _ hb1).mono (by rw [size_setCell];exact Nat.le_refl _) (fun _ _ h=>h))
 have HROOM0:=Lib.hid (HR1.out.below hb1)
 clear hb1 HB
 rcases Nat.eq_zero_or_pos L.length with h0|h0
 ·exact Yx85
 ·obtain ⟨g,off,cap,rfl,hg,hcells⟩:=int_open hrow h0
  have HC:=Lib.hid hcells
  clear hrow hcells
  go_wp2_with fail
  go_loopw [7,22] (fun v i w'=>∃ k:Nat,k≤L.length∧i = .int .i64 k∧Fr w.heap.size (· = b) w w'∧Row w' 3 (.slice (some ⟨g,off,none⟩) L.length cap) L.length (ints L)∧RoomAt w' b R1∧w'.ownsRow w.heap.size 158 5 v ((L.take k).flatMap f).length (((L.take k).flatMap f).flatMap turnCells)) (fun _ i _=>L.length-(intOf i).toNat)
  case atStart=>exact ⟨0,by omega,rfl,HFR0.out,HROW.out,HROOM0.out,World.ownsRow_nil _ _ _ _⟩
  case round=>
   obtain ⟨k,hk,rfl,hfr,hrow,hroom,hown⟩:=hrel
   have HFR:=Lib.hid hfr
   have HROW2:=Lib.hid hrow
   have HROOM:=Lib.hid hroom
   have HOWN:=Lib.hid hown
   clear hfr hown hroom
   by_cases hkl:k<L.length
   ·obtain ⟨g',off',cap',e1,hg',hcells⟩:=int_open hrow h0
    cases e1
    have hc:=hcells k hkl
    have hp:=HM.out k hkl
    have HS:=Lib.hid (HT.out k hkl)
    have HGL:=HTL.out k
    rw [List.length_take] at HGL
    clear hcells hrow
    generalize L.getD k 0=p at *
    generalize (L.take k).flatMap f=G at *
    go_wp2_with (at_builtin;refine wpList_app rfl (.tmp 27) (.tmp 31) 98 rfl w.heap.size elemTurn _ G.length (G.flatMap turnCells) rfl ?a1 _ 1 ([⟨6,p,n,0,0⟩].flatMap turnCells) rfl ?a2 rfl ?a4 ?a5 ?a6 ?a7 (fun v' w3 HO HG=>?_))
    case a1=>exact HOWN.out.alloc _
    case a2=>exact row_new' _ _ 1 _ ([⟨6,p,n,0,0⟩].flatMap turnCells) (by decide) rfl
    case a4=>exact turns_one _
    case a5=>omega
    case a6=>omega
    case a7=>have h1:=HFR.out.size;simp;omega
    go_roundw
    case rel=>
     have h1:=HFR.out.size
     have hown2:=HOWN.out.alloc (.cells ([⟨6,p,n,0,0⟩].flatMap turnCells).toArray 158)
     have hbl:=below_alloc wr (.cells ([⟨6,p,n,0,0⟩].flatMap turnCells).toArray 158)
     refine ⟨k+1,by omega,by go_num,?_,?_,?_,?_⟩
     ·exact (HFR.out.alloc (by omega) _).grown HG.out Yo16 (own_le HOWN.out)
     ·exact Row.grown (HROW2.out.below hbl) hown2 HG.out (by decide)
     ·exact RoomAt.grown (HROOM.out.below hbl) hown2 HG.out hb (by decide)
     ·rw [HS.out,List.length_append,List.flatMap_append]
      exact HO.out
    case measure=>simp [intOf];omega
   ·exact Yx129
set_option maxHeartbeats 4000000 in
theorem mute_off (b:Nat) (R:Room) (n:Nat) (w:World) (hR:RoomAt w b R) (hn:n<9) (hwant:∀ p,p<9→(R.sub n p).there=true→0≤(R.sub n p).want∧(R.sub n p).want<(R.src n).ss.length) :
  Calls Tryz.prog 140 #[.pointer (some ⟨b,0,none⟩),.int .i64 n,.bool false] w fun e w'=>(∃ v,e = .returned v∧TurnRow w' v (mute R n false).1)∧RoomAt w' b (mute R n false).2∧Fr w.heap.size (· = b) w w':=by
 have hb:=hR.lt
 obtain ⟨s0,s1,s2,s3,s4⟩:=hR.srcc hn
 have f4:=hR.unfrozen (9+n*5+4)
 have HR1:=Lib.hid (hR.setSrcCell hn (i:=4) (by omega) (srcCell_muted (R.src n) false) (hR.rows n hn))
 have HM0:Hid (mute R n false=((subs (R.setSrc n {R.src n with muted:=false}) n).flatMap (muteTurns (R.setSrc n {R.src n with muted:=false}) n false),R.setSrc n {R.src n with muted:=false})):=rfl
 have HW1:Hid (∀ p,p<9→((R.setSrc n {R.src n with muted:=false}).sub n p).there=true→0≤((R.setSrc n {R.src n with muted:=false}).sub n p).want∧((R.setSrc n {R.src n with muted:=false}).sub n p).want<((R.setSrc n {R.src n with muted:=false}).src n).ss.length):=by
  intro p hp ht
  rw [src_setSrc]
  exact hwant p hp ht
 clear s0 s1 s2 s3 hwant
 generalize R.setSrc n {R.src n with muted:=false}=R1 at *
 have CS:=Lib.hid (Subs_any b R1 n _ HR1.out)
 have HM:Hid (∀ j,j<(subs R1 n).length→(subs R1 n).getD j 0<9∧(R1.sub n ((subs R1 n).getD j 0)).there=true):=fun j h=>subs_there hn h
 have HL:=subs_len R1 n
 have HT:Hid (∀ k,k<(subs R1 n).length→((subs R1 n).take (k+1)).flatMap (muteTurns R1 n false)=((subs R1 n).take k).flatMap (muteTurns R1 n false)++[⟨7,(subs R1 n).getD k 0,n,0,0⟩]++waits R1 ((subs R1 n).getD k 0) n):=fun k h=>by rw [flat_snoc _ h,List.append_assoc];rfl
 have HTL:Hid (∀ k,(((subs R1 n).take k).flatMap (muteTurns R1 n false)).length≤2*((subs R1 n).take k).length):=fun k=>muteAll_len _ _ _ _
 have HWL:Hid (∀ p,(waits R1 p n).length≤1):=fun p=>by unfold waits;split <;> simp
 clear hR
 generalize subs R1 n=L at *
 generalize muteTurns R1 n false=f at *
 go_enter Tryz.func140,Tryz.ntmps140
 go_wp2_with fail
 refine CS.out.mono ?_
 rintro e w1 ⟨⟨lv,rfl,hrow⟩,hb1⟩
 have HROW:=Lib.hid hrow
 have HB:=Lib.hid hb1
 have hsz:w.heap.size≤w1.heap.size:=by have:=hb1.size;rw [size_setCell] at this;exact this
 have HFR0:Hid (Fr w.heap.size (· = b) w w1):=((Fr.refl w.heap.size (· = b) w).setAt _ _).trans ((Fr.of_below _ hb1).mono (by rw [size_setCell];exact Nat.le_refl _) (fun _ _ h=>h))
 have HROOM0:=Lib.hid (HR1.out.below hb1)
 clear hb1 HB
 rcases Nat.eq_zero_or_pos L.length with h0|h0
 ·exact Yx85
 ·obtain ⟨g,off,cap,rfl,hg,hcells⟩:=int_open hrow h0
  have HC:=Lib.hid hcells
  clear hrow hcells
  go_wp2_with fail
  go_loopw [7,22] (fun v i w'=>∃ k:Nat,k≤L.length∧i = .int .i64 k∧Fr w.heap.size (· = b) w w'∧Row w' 3 (.slice (some ⟨g,off,none⟩) L.length cap) L.length (ints L)∧RoomAt w' b R1∧w'.ownsRow w.heap.size 158 5 v ((L.take k).flatMap f).length (((L.take k).flatMap f).flatMap turnCells)) (fun _ i _=>L.length-(intOf i).toNat)
  case atStart=>exact ⟨0,by omega,rfl,HFR0.out,HROW.out,HROOM0.out,World.ownsRow_nil _ _ _ _⟩
  case round=>
   obtain ⟨k,hk,rfl,hfr,hrow,hroom,hown⟩:=hrel
   have HFR:=Lib.hid hfr
   have HROW2:=Lib.hid hrow
   have HROOM:=Lib.hid hroom
   have HOWN:=Lib.hid hown
   clear hfr hown hroom
   by_cases hkl:k<L.length
   ·obtain ⟨g',off',cap',e1,hg',hcells⟩:=int_open hrow h0
    cases e1
    have hc:=hcells k hkl
    have HP:=Lib.hid (HM.out k hkl)
    have HS:=Lib.hid (HT.out k hkl)
    have HGL:=HTL.out k
    have HWLk:=HWL.out (L.getD k 0)
    rw [List.length_take] at HGL
    clear hcells hrow
    generalize L.getD k 0=p at *
    generalize (L.take k).flatMap f=G at *
    have h1:=HFR.out.size
    have CW:Hid (∀ w3,RoomAt w3 b R1→Calls Tryz.prog 141 #[.pointer (some ⟨b,0,none⟩),.int .i64 p,.int .i64 n] w3 fun e w'=>(∃ v,e = .returned v∧TurnRow w' v (waits R1 p n))∧Below w3.heap.size w3 w'):=fun w3 h3=>waits_any b R1 p n w3 h3 hn HP.out.1 (HW1.out p HP.out.1 HP.out.2)
    have HO2:=Lib.hid (HOWN.out.alloc (.cells ([⟨7,p,n,0,0⟩].flatMap turnCells).toArray 158))
    have HBL:=Lib.hid (below_alloc wr (.cells ([⟨7,p,n,0,0⟩].flatMap turnCells).toArray 158))
    generalize waits R1 p n=Wt at *
    go_wp2_with (first|(at_builtin;refine wpList_app rfl (.tmp 33) (.tmp 37) 98 rfl w.heap.size elemTurn _ G.length (G.flatMap turnCells) rfl ?a1 _ 1 ([⟨7,p,n,0,0⟩].flatMap turnCells) rfl ?a2 rfl ?a4 ?a5 ?a6 ?a7 (fun v' w3 HO HG=>?_))|(go_at_call 141;refine (CW.out _ (RoomAt.grown (HROOM.out.below HBL.out) HO2.out HG.out hb (by decide))).mono ?_;rintro e w4 ⟨⟨tv,rfl,htr⟩,hb4⟩;have HTR:=Lib.hid htr;have HB4:=Lib.hid hb4;clear htr hb4)|(at_builtin;refine wpList_app rfl (.tmp 39) (.tmp 43) 98 rfl w.heap.size elemTurn _ (G++[Turn.mk 7 p n 0 0]).length ((G++[Turn.mk 7 p n 0 0]).flatMap turnCells) rfl ?b1 _ Wt.length (Wt.flatMap turnCells) rfl ?b2 ?b3 ?b4 ?b5 ?b6 ?b7 (fun v' w5 HO5 HG5=>?_)))
    case a1=>exact HOWN.out.alloc _
    case a2=>exact row_new' _ _ 1 _ ([⟨7,p,n,0,0⟩].flatMap turnCells) (by decide) rfl
    case a4=>exact turns_one _
    case a5=>omega
    case a6=>omega
    case a7=>simp;omega
    case b1=>rw [List.length_append,List.flatMap_append];exact owns_below HO.out HB4.out
    case b2=>exact HTR.out
    case b3=>exact turns_len _
    case b4=>exact turns_one _
    case b5=>simp;omega
    case b6=>simp;omega
    case b7=>have h2:=HG.out.size;have h3:=HB4.out.size;simp at h2;omega
    go_roundw
    case rel=>
     have h2:=HG.out.size
     have h3:=HB4.out.size
     simp at h2
     have HO3:=owns_below HO.out HB4.out
     refine ⟨k+1,by omega,by go_num,?_,?_,?_,?_⟩
     ·have g1:=(HFR.out.alloc (by omega) _).grown HG.out Yo16 (own_le HOWN.out)
      have g2:=g1.trans ((Fr.of_below _ HB4.out).mono (by omega) (fun _ _ h=>h))
      exact g2.grown HG5.out (by omega) (own_le HO.out)
     ·exact Row.grown ((Row.grown (HROW2.out.below HBL.out) HO2.out HG.out (by decide)).below HB4.out) HO3 HG5.out (by decide)
     ·exact RoomAt.grown ((RoomAt.grown (HROOM.out.below HBL.out) HO2.out HG.out hb (by decide)).below HB4.out) HO3 HG5.out hb (by decide)
     ·rw [HS.out,List.length_append,List.flatMap_append]
      exact HO5.out
    case measure=>simp [intOf];omega
   ·exact Yx129
end Go.Proofs.Rm
namespace Go.Proofs.Rm
open Go.RowKit Go.Proofs.Heap Go.Proofs.Mem
theorem owns_new (w:World) (e:TypeId) (size n m:Nat) (xs:List Value) (hl:xs.length=n*size) (hn:n≤maxLen) (hm:m=w.heap.size):(w.alloc (.cells xs.toArray e)).ownsRow m e size (.slice (some ⟨m,0,none⟩) n n) n xs:=by
 subst hm
 exact ⟨hl,.inr ⟨w.heap.size,n,xs.toArray,rfl,Nat.le_refl _,(by show (w.heap.push _)[w.heap.size]?=_;simp),Nat.le_refl _,hn,by simp [hl],by rw [List.take_of_length_le (by simp [hl])]⟩⟩
theorem RoomAt.alloc {w:World} {b:Nat} {R:Room} (h:RoomAt w b R) (o:Obj):RoomAt (w.alloc o) b R:=h.below (below_alloc _ _)
theorem RoomAt.drew {w:World} {b:Nat} {R:Room} (h:RoomAt w b R):RoomAt w.drew b R:=h.below (Below.refl _ _).drew
theorem RoomAt.drewN {w:World} {b:Nat} {R:Room} (h:RoomAt w b R) (q:Nat):RoomAt (w.drewN q) b R:=h.below (below_drewN (Below.refl _ _) q)
theorem owns_drew {base:Nat} {e:TypeId} {size:Nat} {v:Value} {n:Nat} {xs:List Value} {w:World} (h:w.ownsRow base e size v n xs):w.drew.ownsRow base e size v n xs:=owns_below h (Below.refl _ _).drew
theorem Row.drew {w:World} {e:TypeId} {v:Value} {n:Nat} {xs:List Value} (h:Row w e v n xs):Row w.drew e v n xs:=h.below (Below.refl _ _).drew
theorem Fr.drewN {B:Nat} {S:Nat→Prop} {a w:World} (h:Fr B S a w) (q:Nat):Fr B S a (w.drewN q):=h.trans (Fr.of_below S (below_drewN (Below.refl _ _) q))
set_option maxHeartbeats 2000000 in
theorem begin_any (b:Nat) (R:Room) (o:Op) (sa ba:Option Addr) (sl sc bl bc:Nat) (w:World) (hR:RoomAt w b R) (hs:1≤o.source∧o.source<9) (hp:1≤o.peer∧o.peer<9) (hq:0≤o.layer∧o.layer<(R.src o.source.toNat).ss.length) :
  Calls Tryz.prog 138 #[.pointer (some ⟨b,0,none⟩),.agg #[.int .i64 o.kind,.int .i64 o.peer,.int .i64 o.source,.int .i64 o.layer,.string (str o.name),.slice sa sl sc,.slice ba bl bc]] w fun e w'=>(∃ v,e = .returned v∧TurnRow w' v (begin R o).1)∧RoomAt w' b (begin R o).2∧Fr w.heap.size (· = b) w w':=by
 have hb:=hR.lt
 obtain ⟨k,p,n,q,nm,ss⟩:=o
 obtain ⟨n,rfl⟩:=Int.eq_ofNat_of_zero_le (show 0≤n by have:=hs.1;dsimp only at this;omega)
 obtain ⟨p,rfl⟩:=Int.eq_ofNat_of_zero_le (show 0≤p by have:=hp.1;dsimp only at this;omega)
 dsimp only at hs hp hq ⊢
 rw [Int.toNat_natCast] at hq
 have hn:n<9:=by omega
 have hp9:p<9:=by omega
 obtain ⟨c0,c1,c2⟩:=hR.subc hn hp9
 obtain ⟨s0,s1,s2,s3,s4⟩:=hR.srcc hn
 have f0:=hR.unfrozen (54+n*27+p*3)
 have f1:=hR.unfrozen (54+n*27+p*3+1)
 have f2:=hR.unfrozen (54+n*27+p*3+2)
 clear s0 s1 s2 s3 s4
 have HR1:=Lib.hid (hR.setSub hn hp9 ⟨true,false,q⟩)
 have hb1:=HR1.out.lt
 obtain ⟨s0,s1,s2,s3,s4⟩:=HR1.out.srcc hn
 have HB0:Hid (begin R ⟨k,p,n,q,nm,ss⟩=(⟨1,p,n,q,0⟩ :: (if (R.src n).muted then [⟨6,p,n,0,0⟩] else [asks (R.setSub n p ⟨true,false,q⟩) p n]),R.setSub n p ⟨true,false,q⟩)):=rfl
 have CA:Hid (∀ w1,RoomAt w1 b (R.setSub n p ⟨true,false,q⟩)→Calls Tryz.prog 166 #[.pointer (some ⟨b,0,none⟩),.int .i64 p,.int .i64 n] w1 fun e w'=>e = .returned (turnAgg (asks (R.setSub n p ⟨true,false,q⟩) p n))∧Below w1.heap.size w1 w'):=
  fun w1 h=>asks_any b _ p n w1 h hn hp9 (by rw [sub_setSub];exact hq)
 have HFR:Hid (Fr w.heap.size (· = b) w (((w.setCell ⟨b,54+n*27+p*3,none⟩ (.bool true)).setCell ⟨b,54+n*27+p*3+1,none⟩ (.bool false)).setCell ⟨b,54+n*27+p*3+2,none⟩ (.int .i64 q))):=(((Fr.refl _ _ _).setAt _ _).setAt _ _).setAt _ _
 have HOWN:Hid (∀ W:World,W.heap.size=w.heap.size→∀ box:Obj,((W.alloc box).alloc (.cells ([Turn.mk 1 p n q 0].flatMap turnCells).toArray 158)).ownsRow (w.heap.size+1) 158 5 (.slice (some ⟨w.heap.size+1,0,none⟩) 1 1) 1 ([Turn.mk 1 p n q 0].flatMap turnCells)):=fun W hW box=>owns_new _ _ 5 1 _ _ rfl (by decide) (by simp [hW])
 have hmu:((R.setSub n p ⟨true,false,q⟩).src n).muted=(R.src n).muted:=rfl
 rw [hmu] at s4
 clear s0 s1 s2 s3 hmu hR hq
 unfold turnAgg at CA
 generalize asks (R.setSub n p ⟨true,false,q⟩) p n=A at *
 generalize R.setSub n p ⟨true,false,q⟩=R1 at *
 obtain ⟨a1,a2,a3,a4,a5⟩:=A
 dsimp only at *
 cases hm:(R.src n).muted
 ·rw [hm] at s4
  have HF:Hid (begin R ⟨k,p,n,q,nm,ss⟩=([⟨1,p,n,q,0⟩,⟨a1,a2,a3,a4,a5⟩],R1)):=by show _=_;rw [HB0.out,hm];rfl
  clear hm
  go_enter Tryz.func138,Tryz.ntmps138
  go_wp2
  go_region
  go_wp2
  go_region
  go_wp2_with (first|(go_at_call 166;refine (CA.out _ Yo22).mono ?_;rintro e w2 ⟨rfl,hb2⟩;have HB2:=Lib.hid hb2;clear hb2)|(at_builtin;refine wpList_app rfl (.tmp 43) (.tmp 50) 98 rfl (w.heap.size+1) elemTurn _ 1 ([⟨1,p,n,q,0⟩].flatMap turnCells) rfl ?a1 _ 1 ([⟨a1,a2,a3,a4,a5⟩].flatMap turnCells) rfl ?a2 rfl ?a4 ?a5 ?a6 ?a7 (fun v' w3 HO HG=>?_)))
  case a1=>exact (owns_below (owns_drew (owns_drew (owns_new _ _ 5 1 (w.heap.size+1) ([⟨1,p,n,q,0⟩].flatMap turnCells) rfl (by decide) (by simp)))) HB2.out).alloc _
  case a2=>exact row_new' _ _ 1 _ ([⟨a1,a2,a3,a4,a5⟩].flatMap turnCells) (by decide) rfl
  case a4=>exact turns_one _
  case a5=>omega
  case a6=>omega
  case a7=>have h2:=HB2.out.size;simp at h2 ⊢;omega
  go_ret
  rw [HF.out]
  have h2:=HB2.out.size
  simp at h2
  have hown:=(owns_below (owns_drew (owns_drew (owns_new _ 158 5 1 (w.heap.size+1) ([⟨1,p,n,q,0⟩].flatMap turnCells) rfl (by decide) (by simp)))) HB2.out).alloc (.cells #[.int .i64 a1,.int .i64 a2,.int .i64 a3,.int .i64 a4,.int .u32 a5] 158)
  refine ⟨⟨_,rfl,Row.of_owns HO.out⟩,?_,?_⟩
  ·exact RoomAt.grown (RoomAt.alloc (RoomAt.below Yo22 HB2.out) _) hown HG.out (by omega) (by decide)
  ·refine Fr.grown (Fr.alloc (Fr.trans ?_ ((Fr.of_below _ HB2.out).mono (B':=w.heap.size) Yo16 (fun _ _ h=>h))) (by omega) _) HG.out Yo16 (fun k hk=>by have:=own_le hown k hk;omega)
   exact (((HFR.out.alloc (by simp) _).alloc (by simp) _).drew).drew
 ·rw [hm] at s4
  have HF:Hid (begin R ⟨k,p,n,q,nm,ss⟩=([⟨1,p,n,q,0⟩,⟨6,p,n,0,0⟩],R1)):=by show _=_;rw [HB0.out,hm];rfl
  clear hm
  go_enter Tryz.func138,Tryz.ntmps138
  go_wp2
  go_region
  go_wp2
  go_region
  go_wp2_with (at_builtin;refine wpList_app rfl (.tmp 35) (.tmp 41) 98 rfl (w.heap.size+1) elemTurn _ 1 ([⟨1,p,n,q,0⟩].flatMap turnCells) rfl ?a1 _ 1 ([⟨6,p,n,0,0⟩].flatMap turnCells) rfl ?a2 rfl ?a4 ?a5 ?a6 ?a7 (fun v' w3 HO HG=>?_))
  case a1=>exact owns_drew (owns_drew ((HOWN.out _ (by simp) _).alloc _))
  case a2=>exact Row.drew (Row.drew (row_new' _ _ 1 _ ([⟨6,p,n,0,0⟩].flatMap turnCells) (by decide) (by simp)))
  case a4=>exact turns_one _
  case a5=>omega
  case a6=>omega
  case a7=>simp
  go_ret
  rw [HF.out]
  refine ⟨⟨_,rfl,Row.of_owns HO.out⟩,?_,?_⟩
  ·exact RoomAt.grown Yo22 (by exact owns_drew (owns_drew ((HOWN.out _ (by simp) _).alloc _))) HG.out (by omega:b<w.heap.size+1) (by decide)
  ·refine Fr.grown ?_ HG.out Yo16 (fun k hk=>by have hk:some (w.heap.size+1)=some k:=hk;cases hk;omega)
   exact ((((HFR.out.alloc (by simp) _).alloc (by simp) _).alloc Yo16 _).drew).drew
end Go.Proofs.Rm
namespace Go.Proofs.Rm
open Go.RowKit Go.Proofs.Heap Go.Proofs.Mem
open Go.Proofs.Lab (may key Tabs)
set_option maxRecDepth 100000 in
set_option maxHeartbeats 4000000 in
theorem wrong_any (b:Nat) (R:Room) (o:Op) (sa ba:Option Addr) (sc bl bc:Nat) (w:World) (hR:RoomAt w b R) (hT:Tabs w) (hnm:o.name.length<9223372036854775807) (hRn:∀ p,(R.names p).length<9223372036854775807)
  (hrow:RRow w (.slice sa o.ssrcs.length sc) o.ssrcs.length (u32s o.ssrcs)) :
  Calls Tryz.prog 109 #[.pointer (some ⟨b,0,none⟩),.agg #[.int .i64 o.kind,.int .i64 o.peer,.int .i64 o.source,.int .i64 o.layer,.string (str o.name),.slice sa o.ssrcs.length sc,.slice ba bl bc]] w fun e w'=>e = .returned (.int .i64 (wrong R o))∧Below w.heap.size w w':=by
 have CJ:=Lib.hid (fun (w1:World) (h:Below w.heap.size w w1) (hp:1≤o.peer∧o.peer<9)=>joins_any b R o sa ba o.ssrcs.length sc bl bc w1 (hR.below h) hp (Utf8Tabs_below hT h) hnm hRn)
 have CP:=Lib.hid (fun (w1:World) (h:Below w.heap.size w w1) (hs:1≤o.source∧o.source<9)=>publishes_any b R o sa ba sc bl bc w1 (hR.below h) hs (hrow.below h))
 have CA:=Lib.hid (fun (w1:World) (h:Below w.heap.size w w1) (hs:1≤o.source∧o.source<9) (hp:1≤o.peer∧o.peer<9)=>about_any b R o sa ba o.ssrcs.length sc bl bc w1 (hR.below h) hs hp)
 have CT:=Lib.hid (fun (w1:World) (h:Below w.heap.size w w1)=>Joined_any b R o.peer w1 (hR.below h))
 have C1:=Lib.hid (fun (w1:World)=>in_any o.peer 9 w1)
 have C2:=Lib.hid (fun (w1:World)=>in_any o.source 9 w1)
 obtain ⟨kd,p,n,q,nm,ss⟩:=o
 have hb:=hR.lt
 have HW:Hid (wrong R ⟨kd,p,n,q,nm,ss⟩=if kd<2∨12<kd then 4
  else if !inn p 9 then 5
  else if kd=2 then joins R ⟨kd,p,n,q,nm,ss⟩
  else if !joined R p then 8
  else if kd=3 then 0
  else if !inn n 9 then 5
  else if kd=4 then publishes R ⟨kd,p,n,q,nm,ss⟩
  else if !(R.src n.toNat).there then 8
  else about R ⟨kd,p,n,q,nm,ss⟩):=rfl
 have HI1:=Lib.hid (inn_iff p 9)
 have HI2:=Lib.hid (inn_iff n 9)
 have HR:=Lib.hid hR
 dsimp only at *
 clear hR hT hnm hRn hrow
 generalize wrong R ⟨kd,p,n,q,nm,ss⟩=wr0 at *
 generalize joins R ⟨kd,p,n,q,nm,ss⟩=jn at *
 generalize publishes R ⟨kd,p,n,q,nm,ss⟩=pb at *
 generalize about R ⟨kd,p,n,q,nm,ss⟩=ab at *
 generalize joined R p=jd at *
 by_cases h1:kd<2
 ·have HF:Hid (wr0=4):=by show _=_;rw [HW.out,if_pos (Or.inl h1)]
  go_enter Tryz.func109,Tryz.ntmps109
  go_wp2
  go_ret
  exact ⟨ret_int HF.out.symm,below_alloc _ _⟩
 by_cases h2:12<kd
 ·have HF:Hid (wr0=4):=by show _=_;rw [HW.out,if_pos (Or.inr h2)]
  go_enter Tryz.func109,Tryz.ntmps109
  go_wp2
  go_ret
  exact ⟨ret_int HF.out.symm,below_alloc _ _⟩
 have HW2:Hid (wr0=if !inn p 9 then 5
  else if kd=2 then jn
  else if !jd then 8
  else if kd=3 then 0
  else if !inn n 9 then 5
  else if kd=4 then pb
  else if !(R.src n.toNat).there then 8
  else ab):=by show _=_;rw [HW.out,if_neg (by omega)]
 clear HW
 cases hip:inn p 9
 ·have HF:Hid (wr0=5):=by show _=_;rw [HW2.out,hip];rfl
  rw [hip] at C1
  clear hip HW2
  go_enter Tryz.func109,Tryz.ntmps109
  go_wp2_with (go_at_call 111;refine (C1.out _).mono ?_;rintro e w1 ⟨rfl,rfl⟩)
  go_ret
  exact ⟨ret_int HF.out.symm,below_alloc _ _⟩
 have hp9:=HI1.out.1 hip
 rw [hip] at C1 HW2
 clear hip HI1
 by_cases h3:kd=2
 ·subst h3
  have HF:Hid (wr0=jn):=by show _=_;rw [HW2.out];rfl
  clear HW2
  go_enter Tryz.func109,Tryz.ntmps109
  go_wp2_with (first|(go_at_call 111;refine (C1.out _).mono ?_;rintro e w1 ⟨rfl,rfl⟩)|(go_at_call 133;refine (CJ.out _ (below_alloc _ _) hp9).mono ?_;rintro e w1 ⟨rfl,hb1⟩))
  go_ret
  exact ⟨ret_int HF.out.symm,(below_alloc _ _).trans (hb1.mono (by simp))⟩
 have HW3:Hid (wr0=if !jd then 8
  else if kd=3 then 0
  else if !inn n 9 then 5
  else if kd=4 then pb
  else if !(R.src n.toNat).there then 8
  else ab):=by show _=_;rw [HW2.out];simp [h3]
 have b3:(kd == 2)=false:=by rw [beq_eq_false_iff_ne];exact h3
 clear HW2 h3
 cases jd
 ·have HF:Hid (wr0=8):=by show _=_;rw [HW3.out];rfl
  exact Yx89
 by_cases h4:kd=3
 ·subst h4
  have HF:Hid (wr0=0):=by show _=_;rw [HW3.out];rfl
  exact Yx89
 have b4:(kd == 3)=false:=by rw [beq_eq_false_iff_ne];exact h4
 have HW4:Hid (wr0=if !inn n 9 then 5
  else if kd=4 then pb
  else if !(R.src n.toNat).there then 8
  else ab):=by show _=_;rw [HW3.out];simp [h4]
 clear HW3 h4
 cases hin:inn n 9
 ·have HF:Hid (wr0=5):=by show _=_;rw [HW4.out,hin];rfl
  rw [hin] at C2
  clear hin HW4
  go_enter Tryz.func109,Tryz.ntmps109
  go_wp2_with fail
  refine (C1.out _).mono ?_
  rintro e w1 ⟨rfl,rfl⟩
  go_wp2_with (first|(go_at_call 80;refine (CT.out _ (below_alloc _ _)).mono ?_;rintro e w1 ⟨rfl,rfl⟩)|(go_at_call 111;refine (C2.out _).mono ?_;rintro e w1 ⟨rfl,rfl⟩))
  go_ret
  exact ⟨ret_int HF.out.symm,below_alloc _ _⟩
 have hn9:=HI2.out.1 hin
 rw [hin] at C2 HW4
 clear hin HI2
 by_cases h5:kd=4
 ·subst h5
  have HF:Hid (wr0=pb):=by show _=_;rw [HW4.out];rfl
  clear HW4
  go_enter Tryz.func109,Tryz.ntmps109
  go_wp2_with fail
  refine (C1.out _).mono ?_
  rintro e w1 ⟨rfl,rfl⟩
  go_wp2_with (first|(go_at_call 80;refine (CT.out _ (below_alloc _ _)).mono ?_;rintro e w1 ⟨rfl,rfl⟩)|(go_at_call 111;refine (C2.out _).mono ?_;rintro e w1 ⟨rfl,rfl⟩)|(go_at_call 134;refine (CP.out _ (below_alloc _ _) hn9).mono ?_;rintro e w1 ⟨rfl,hb1⟩))
  go_ret
  exact ⟨ret_int HF.out.symm,(below_alloc _ _).trans (hb1.mono (by simp))⟩
 have HW5:Hid (wr0=if !(R.src n.toNat).there then 8 else ab):=by show _=_;rw [HW4.out];simp [h5]
 have b5:(kd == 4)=false:=by rw [beq_eq_false_iff_ne];exact h5
 clear HW4 h5
 obtain ⟨n,rfl⟩:=Int.eq_ofNat_of_zero_le (show 0≤n by omega)
 rw [Int.toNat_natCast] at HW5
 obtain ⟨s0,s1,s2,s3,s4⟩:=HR.out.srcc (n:=n) (by omega)
 clear s1 s2 s3 s4
 cases ht:(R.src n).there
 ·have HF:Hid (wr0=8):=by show _=_;rw [HW5.out,ht];rfl
  rw [ht] at s0
  clear ht HW5
  go_enter Tryz.func109,Tryz.ntmps109
  go_wp2_with fail
  refine (C1.out _).mono ?_
  rintro e w1 ⟨rfl,rfl⟩
  go_wp2_with (first|(go_at_call 80;refine (CT.out _ (below_alloc _ _)).mono ?_;rintro e w1 ⟨rfl,rfl⟩)|(go_at_call 111;refine (C2.out _).mono ?_;rintro e w1 ⟨rfl,rfl⟩))
  go_quiet (fail)
  go_wp2
  go_ret
  exact ⟨ret_int HF.out.symm,below_drewN (below_alloc _ _) _⟩
 ·have HF:Hid (wr0=ab):=by show _=_;rw [HW5.out,ht];rfl
  rw [ht] at s0
  clear ht HW5
  go_enter Tryz.func109,Tryz.ntmps109
  go_wp2_with fail
  refine (C1.out _).mono ?_
  rintro e w1 ⟨rfl,rfl⟩
  go_wp2_with (first|(go_at_call 80;refine (CT.out _ (below_alloc _ _)).mono ?_;rintro e w1 ⟨rfl,rfl⟩)|(go_at_call 111;refine (C2.out _).mono ?_;rintro e w1 ⟨rfl,rfl⟩))
  go_quiet (fail)
  go_wp2_with (go_at_call 135;refine (CA.out _ (below_drewN (below_alloc _ _) _) hn9 hp9).mono ?_;rintro e w1 ⟨rfl,hb1⟩)
  go_ret
  exact ⟨ret_int HF.out.symm,(below_drewN (below_alloc _ _) _).trans (hb1.mono (by simp))⟩
end Go.Proofs.Rm
