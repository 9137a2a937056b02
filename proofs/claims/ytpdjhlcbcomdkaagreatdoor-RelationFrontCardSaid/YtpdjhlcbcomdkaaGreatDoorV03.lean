/- Several texts in one: Plain laws on peer names: runes of a list of bytes; which names may be; their keys; their beginnings. No program in sight. The room as plain data: what package room computes, function by function. No program in sight. The plain room: what holds of every room that was made by operations is kept by each. No program in sight. The plain room: an operation that may be done keeps what holds of every room. The plain room: the slice values beside the sources' lists of SSRCs change nothing. No program in sight. -/
import Derived.Lib.MapLaws
import Derived.Lib.ValidLaws
import GoSem.Core.Value
import Derived.Test.YtpdjhlcbcomdkaaGreatDoorV01
import Derived.Test.YtpdjhlcbcomdkaaGreatDoorV02
set_option linter.unusedVariables false
set_option linter.unusedSimpArgs false
namespace Go.Proofs.Lab
open Go Go.Lib
theorem ne_of_len {l:List UInt8} (h:0<l.length):l≠[]:=List.length_pos_iff.1 h
def rnGo:Nat→List UInt8→List (Nat × Nat)
 | 0,_=>[]
 | n+1,l=>if l=[] then [] else decodeL l :: rnGo n (l.drop (decodeL l).2)
def rn (l:List UInt8):List (Nat × Nat):=rnGo l.length l
theorem rnGo_fuel:∀ (n m:Nat) (l:List UInt8),l.length≤n→l.length≤m→rnGo n l=rnGo m l
 | 0,m,l,hn,_=>by
  have:l=[]:=List.eq_nil_of_length_eq_zero (by omega)
  subst this;cases m <;> simp [rnGo]
 | n+1,0,l,_,hm=>by
  have:l=[]:=List.eq_nil_of_length_eq_zero (by omega)
  subst this;simp [rnGo]
 | n+1,m+1,l,hn,hm=>by
  by_cases hne:l=[]
  ·simp [rnGo,hne]
  ·have hw:=decodeL_width l
   have hl:0<l.length:=List.length_pos_iff.2 hne
   simp only [rnGo,if_neg hne]
   rw [rnGo_fuel n m _ (by rw [List.length_drop];omega) (by rw [List.length_drop];omega)]
theorem rn_nil:rn []=[]:=rfl
theorem rn_step (l:List UInt8) (hne:l≠[]):rn l=decodeL l :: rn (l.drop (decodeL l).2):=by
 have hw:=decodeL_width l
 have hl:0<l.length:=List.length_pos_iff.2 hne
 unfold rn
 obtain ⟨n,hn⟩:∃ n,l.length=n+1:=⟨l.length-1,by omega⟩
 rw [hn,rnGo,if_neg hne,rnGo_fuel n _ _ (by rw [List.length_drop];omega) (Nat.le_refl _)]
theorem rn_ind {motive:List UInt8→Prop} (nil:motive []) (step:∀ l,l≠[]→motive (l.drop (decodeL l).2)→motive l) (l:List UInt8):motive l:=by
 have key:∀ n l,l.length≤n→motive l:=by
  intro n
  induction n with
  | zero=>intro l hl;have:l=[]:=List.eq_nil_of_length_eq_zero (by omega);subst this;exact nil
  | succ n ih=>
   intro l hl
   by_cases hne:l=[]
   ·subst hne;exact nil
   ·have hw:=decodeL_width l
    have hl:0<l.length:=List.length_pos_iff.2 hne
    exact step l hne (ih _ (by rw [List.length_drop];omega))
 exact key _ l (Nat.le_refl _)
def good (p:Nat × Nat):Bool:= !(p.1 == 65533 && p.2 == 1)
def okR (r:Nat):Bool:=decide (33≤r) && (decide (r<127) || decide (159<r)) && !(r == 65533)
def may (l:List UInt8):Bool:=(rn l).all (fun p=>okR p.1) && decide (1≤(rn l).length) && decide ((rn l).length≤8)
def low (b:UInt8):UInt8:=if 65≤b.toNat∧b.toNat≤90 then b+32 else b
def key (l:List UInt8):List UInt8:=if may l then l.map low else []
def widths (R:List (Nat × Nat)):Nat:=(R.map (·.2)).sum
def cutAt (l:List UInt8) (k:Nat):Nat:=widths ((rn l).take k)
theorem okR_good {p:Nat × Nat} (h:okR p.1=true):good p=true:=by
 unfold okR at h;unfold good;simp at h ⊢;exact Or.inl h.2
theorem may_valid {l:List UInt8} (h:may l=true):(rn l).all good=true:=by
 unfold may at h
 simp only [Bool.and_eq_true] at h
 exact List.all_eq_true.2 fun p hp=>okR_good (List.all_eq_true.1 h.1.1 p hp)
theorem validD_rn:∀ l,validD l=(rn l).all good:=by
 refine rn_ind rfl ?_
 intro l hne ih
 rw [validD_step l hne,rn_step l hne,List.all_cons,ih]
 unfold good
 by_cases h:(decodeL l).1=65533∧(decodeL l).2=1
 ·simp [h]
 ·rw [if_neg h]
  have:((decodeL l).1 == 65533 && (decodeL l).2 == 1)=false:=by
   rw [Bool.eq_false_iff];simpa using h
  simp [this]
theorem widths_rn:∀ l,widths (rn l)=l.length:=by
 refine rn_ind rfl ?_
 intro l hne ih
 have h1:=decodeL_le l hne
 rw [rn_step l hne]
 unfold widths at *
 rw [List.map_cons,List.sum_cons,ih,List.length_drop];omega
theorem widths_take (R:List (Nat × Nat)) (k:Nat):widths (R.take k)≤widths R:=by
 unfold widths
 induction R generalizing k with
 | nil=>simp
 | cons a R ih=>cases k with
  | zero=>simp
  | succ k=>simp only [List.take_succ_cons,List.map_cons,List.sum_cons];have:=ih k;omega
theorem cutAt_le (l:List UInt8) (k:Nat):cutAt l k≤l.length:=by
 rw [←widths_rn l];exact widths_take _ _
theorem cutAt_zero (l:List UInt8):cutAt l 0=0:=rfl
theorem rn_length_le:∀ l,(rn l).length≤l.length:=by
 refine rn_ind (by simp [rn_nil]) ?_
 intro l hne ih
 have h1:=decodeL_le l hne
 have h2:=decodeL_width l
 rw [rn_step l hne]
 rw [List.length_drop] at ih
 simp;omega
theorem rn_drop:∀ l,∀ k,rn (l.drop (cutAt l k))=(rn l).drop k:=by
 refine rn_ind (by intro k;simp [rn_nil]) ?_
 intro l hne ih k
 cases k with
 | zero=>simp [cutAt_zero]
 | succ k=>
  have:=ih k
  unfold cutAt at *
  rw [rn_step l hne,List.take_succ_cons,List.drop_succ_cons]
  unfold widths at *
  rw [List.map_cons,List.sum_cons,←this,List.drop_drop]
theorem cutAt_succ (l:List UInt8) (k:Nat) (h:cutAt l k<l.length):cutAt l (k+1)=cutAt l k+(decodeL (l.drop (cutAt l k))).2:=by
 have hne:l.drop (cutAt l k)≠[]:=ne_of_len (by rw [List.length_drop];omega)
 have h1:=rn_drop l k
 rw [rn_step _ hne] at h1
 unfold cutAt at *
 have hk:(rn l)[k]?=some (decodeL (l.drop (widths ((rn l).take k)))):=by
  have:=congrArg (·[0]?) h1
  simpa using this.symm
 rw [List.take_add_one,hk]
 unfold widths
 simp
theorem cutAt_end (l:List UInt8) (k:Nat):cutAt l k=l.length↔(rn l).length≤k:=by
 constructor
 ·intro h
  have h1:=rn_drop l k
  rw [h,List.drop_length,rn_nil] at h1
  have:=congrArg List.length h1
  rw [List.length_drop] at this;simp at this;omega
 ·intro h
  unfold cutAt;rw [List.take_of_length_le h,widths_rn]
theorem cutAt_lt (l:List UInt8) (k:Nat):cutAt l k<l.length↔k<(rn l).length:=by
 have h1:=cutAt_end l k
 have h2:=cutAt_le l k
 omega
theorem cutAt_ge (l:List UInt8) (k:Nat) (h:k≤(rn l).length):k≤cutAt l k:=by
 induction k with
 | zero=>exact Nat.zero_le _
 | succ k ih=>
  have:=(cutAt_lt l k).2 (by omega)
  have:=ih (by omega)
  rw [cutAt_succ l k Yo25]
  have:=decodeL_width (l.drop (cutAt l k))
  omega
theorem rn_at (l:List UInt8) (k:Nat) (h:k<(rn l).length):(rn l)[k]=decodeL (l.drop (cutAt l k)):=by
 have hlt:=(cutAt_lt l k).2 h
 have hne:l.drop (cutAt l k)≠[]:=ne_of_len (by rw [List.length_drop];omega)
 have h1:=rn_drop l k
 rw [rn_step _ hne] at h1
 have:=congrArg (·[0]?) h1
 simp [List.getElem?_eq_getElem h] at this
 exact this.symm
theorem decodeL_w4 (l:List UInt8):(decodeL l).2≤4:=by
 rw [decodeL_N]
 rcases decodeN_shape l.length (l.getD 0 0).toNat (l.getD 1 0).toNat (l.getD 2 0).toNat (l.getD 3 0).toNat with ⟨c,e⟩|⟨c1,c2,c3,cv,e⟩|⟨c1,c2,c3,c4,cv,cs,e⟩|⟨c1,c2,c3,c4,c5,cv,cw,e⟩|e
 all_goals (rw [e];dsimp only;omega)
theorem length_le4:∀ l,l.length≤4*(rn l).length:=by
 refine rn_ind (by simp [rn_nil]) ?_
 intro l hne ih
 have h1:=decodeL_w4 l
 rw [List.length_drop] at ih
 rw [rn_step l hne,List.length_cons];omega
theorem may_len {l:List UInt8} (h:may l=true):l.length≤32:=by
 have:=length_le4 l
 unfold may at h;simp at h;omega
/-! Keys -/
def lowN (r:Nat):Nat:=if 65≤r∧r≤90 then r+32 else r
theorem low_toNat (b:UInt8):(low b).toNat=lowN b.toNat:=by
 unfold low lowN
 split
 ·rename_i h
  rw [UInt8.toNat_add]
  have:(32:UInt8).toNat=32:=rfl
  rw [this];omega
 ·rfl
theorem getD_low (l:List UInt8) (i:Nat):((l.map low).getD i 0).toNat=lowN (l.getD i 0).toNat:=by
 rw [List.getD_eq_getElem?_getD,List.getD_eq_getElem?_getD,List.getElem?_map]
 cases l[i]? with
 | none=>rfl
 | some b=>exact low_toNat b
theorem decodeN_low (n b0 b1 b2 b3:Nat):decodeN n (lowN b0) (lowN b1) (lowN b2) (lowN b3)=(lowN (decodeN n b0 b1 b2 b3).1,(decodeN n b0 b1 b2 b3).2):=by
 have hc:∀ b,128≤b→lowN b=b:=by intro b h;unfold lowN;rw [if_neg (by omega)]
 have hl:∀ b,b<128→lowN b<128:=by intro b h;unfold lowN;split <;> omega
 have h64:∀ b,lowN b / 64=2↔b / 64=2:=by
  intro b;unfold lowN;split <;> omega
 by_cases h0:b0<128
 ·unfold decodeN;rw [if_pos (hl _ h0),if_pos h0]
 ·have e0:=hc b0 (by omega)
  rw [e0]
  have h8:∀ b,b / 64=2→lowN b=b:=fun b h=>hc b (by omega)
  by_cases k1:b1 / 64=2
  ·rw [h8 b1 k1]
   by_cases k2:b2 / 64=2
   ·rw [h8 b2 k2]
    by_cases k3:b3 / 64=2
    ·rw [h8 b3 k3]
     exact Yx61
    ·have k3':¬lowN b3 / 64=2:=fun h=>k3 ((h64 b3).1 h)
     have e3:decodeN n b0 b1 b2 (lowN b3)=decodeN n b0 b1 b2 b3:=by
      unfold decodeN
      rw [if_neg h0,if_neg h0]
      simp only [k3,k3',and_false,if_false]
     rw [e3]
     exact Yx61
   ·have k2':¬lowN b2 / 64=2:=fun h=>k2 ((h64 b2).1 h)
    have e3:decodeN n b0 b1 (lowN b2) (lowN b3)=decodeN n b0 b1 b2 b3:=by
     unfold decodeN
     rw [if_neg h0,if_neg h0]
     simp only [k2,k2',and_false,false_and,if_false]
    rw [e3]
    exact Yx61
  ·have k1':¬lowN b1 / 64=2:=fun h=>k1 ((h64 b1).1 h)
   have e3:decodeN n b0 (lowN b1) (lowN b2) (lowN b3)=decodeN n b0 b1 b2 b3:=by
    unfold decodeN
    rw [if_neg h0,if_neg h0]
    simp only [k1,k1',and_false,false_and,if_false]
   rw [e3]
   exact Yx61
theorem decode_low (l:List UInt8):decodeL (l.map low)=(lowN (decodeL l).1,(decodeL l).2):=by
 rw [decodeL_N,decodeL_N,List.length_map,getD_low,getD_low,getD_low,getD_low,decodeN_low]
theorem rn_low:∀ l,rn (l.map low)=(rn l).map fun p=>(lowN p.1,p.2):=by
 refine rn_ind rfl ?_
 intro l hne ih
 rw [rn_step _ (by simpa using hne),rn_step l hne,List.map_cons,decode_low]
 dsimp only
 rw [←List.map_drop,ih]
theorem okR_low (r:Nat):okR (lowN r)=okR r:=by
 unfold okR lowN
 split
 ·rename_i h
  rw [Bool.eq_iff_iff];simp;omega
 ·rfl
theorem may_low (l:List UInt8):may (l.map low)=may l:=by
 unfold may
 rw [rn_low,List.length_map,List.all_map]
 congr 2
 apply List.all_congr rfl
 intro p;exact okR_low _
theorem low_low (b:UInt8):low (low b)=low b:=by
 apply UInt8.toNat_inj.1
 rw [low_toNat,low_toNat];unfold lowN;repeat' split
 all_goals omega
theorem key_laws (l:List UInt8) (h:may l=true):(key l).length=l.length∧may (key l)=true∧key (key l)=key l:=by
 have e:key l=l.map low:=by unfold key;rw [if_pos h]
 rw [e]
 refine ⟨List.length_map _,by rw [may_low,h],?_⟩
 unfold key
 rw [if_pos (by rw [may_low,h]),List.map_map]
 congr 1
 funext b;exact low_low b
def lowF (r:Int):Int:=if 65≤r∧r≤90 then r-65+97 else r
theorem dec_low_ascii (l:List UInt8) (hne:l≠[]) (h:(decodeL l).1<128):∃ b t,l=b :: t∧b.toNat<128∧decodeL l=(b.toNat,1):=by
 cases l with
 | nil=>exact absurd rfl hne
 | cons b t=>
  refine ⟨b,t,rfl,?_⟩
  have e0:(b :: t).getD 0 0=b:=rfl
  rw [decodeL_N,e0] at h ⊢
  rcases decodeN_shape (b :: t).length b.toNat ((b :: t).getD 1 0).toNat ((b :: t).getD 2 0).toNat ((b :: t).getD 3 0).toNat with ⟨c,e⟩|⟨c1,c2,c3,cv,e⟩|⟨c1,c2,c3,c4,cv,cs,e⟩|⟨c1,c2,c3,c4,c5,cv,cw,e⟩|e
  ·exact ⟨c,e⟩
  all_goals (rw [e] at h;dsimp only at h;omega)
theorem encodeRune_high (r:Int) (h:128≤r):∀ b∈encodeRune r,low b=b:=by
 intro b hb
 have:128≤b.toNat:=by
  unfold encodeRune at hb
  obtain ⟨z,hz,rfl⟩:=List.mem_map.1 hb
  have h1:=encodeRuneZ_byte r z hz
  have h2:128≤z:=by
   unfold encodeRuneZ at hz
   repeat' split at hz
   all_goals simp at hz
   all_goals omega
  obtain ⟨n,rfl⟩:=Int.eq_ofNat_of_zero_le h1.1
  simp;omega
 unfold low;rw [if_neg (by omega)]
theorem mapD_low:∀ l,validD l=true→mapD lowF l=l.map low:=by
 refine rn_ind (fun _=>rfl) ?_
 intro l hne ih hv
 rw [validD_step l hne] at hv
 split at hv
 ·cases hv
 rename_i hg
 have ih:=ih hv
 by_cases h:(decodeL l).1<128
 ·obtain ⟨b,t,rfl,hb,hd⟩:=dec_low_ascii l hne h
  rw [mapD_step _ _ hne,ih,hd]
  dsimp only [List.drop_succ_cons,List.drop_zero,List.map_cons]
  have h0:0≤lowF (b.toNat:Int):=by unfold lowF;split <;> omega
  rw [if_pos h0]
  have:encodeRune (lowF (b.toNat:Int))=[low b]:=by
   have e2:lowF (b.toNat:Int)=((low b).toNat:Int):=by
    rw [low_toNat];unfold lowF lowN;repeat' split
    all_goals omega
   have h3:(low b).toNat<128:=by rw [low_toNat];unfold lowN;split <;> omega
   rw [e2];unfold encodeRune;rw [encodeRuneZ_one (by omega) (by omega)]
   simp
  rw [this];rfl
 ·have hf:lowF ((decodeL l).1:Int)=(decodeL l).1:=by unfold lowF;rw [if_neg (by omega)]
  rw [mapD_same lowF l hne hf hg,ih,←encode_decode l hne hg]
  conv=>rhs;rw [←List.take_append_drop (decodeL l).2 l,List.map_append,←encode_decode l hne hg]
  congr 1
  have:=encodeRune_high ((decodeL l).1:Int) (by omega)
  exact (List.map_congr_left this).symm▸(List.map_id _).symm
/-! One rune -/
end Go.Proofs.Lab
namespace Go.Proofs.Rm
open Go.Proofs.Lab (may key)
structure Op where
 kind:Int
 peer:Int
 source:Int
 layer:Int
 name:List UInt8
 ssrcs:List Int
structure Turn where
 kind:Int
 peer:Int
 source:Int
 layer:Int
 ssrc:Int
deriving DecidableEq
structure Src where
 there:Bool
 num:Int
 own:Int
 sv:Value
 ss:List Int
 muted:Bool
structure Sub where
 there:Bool
 paused:Bool
 want:Int
structure Room where
 names:Nat→List UInt8
 src:Nat→Src
 sub:Nat→Nat→Sub
def noSrc:Src:=⟨false,0,0,.slice none 0 0,[],false⟩
def noSub:Sub:=⟨false,false,0⟩
def empty:Room:=⟨fun _=>[],fun _=>noSrc,fun _ _=>noSub⟩
def Room.setName (R:Room) (p:Nat) (s:List UInt8):Room:={R with names:=fun q=>if q=p then s else R.names q}
def Room.setSrc (R:Room) (n:Nat) (s:Src):Room:={R with src:=fun q=>if q=n then s else R.src q}
def Room.setSub (R:Room) (n p:Nat) (x:Sub):Room:={R with sub:=fun m q=>if m=n∧q=p then x else R.sub m q}
def inn (n below:Int):Bool:=decide (1≤n) && decide (n<below)
def joined (R:Room) (p:Int):Bool:=inn p 9 && !(R.names p.toNat).isEmpty
def index (l:List Int) (x:Int):Int:=match l.findIdx? (fun y=>y == x) with|some i=>i|none=> -1
def ofGo (R:Room) (x:Int):Nat→Nat→Int × Int × Bool
 | 0,_=>(0,0,false)
 | k+1,n=>if (R.src n).there && decide (0≤index (R.src n).ss x) then ((n:Int),index (R.src n).ss x,true) else ofGo R x k (n+1)
def of (R:Room) (x:Int):Int × Int × Bool:=ofGo R x 9 0
def hears (R:Room) (p n:Int):Bool:=inn p 9 && inn n 9 && (R.sub n.toNat p.toNat).there
def subs (R:Room) (n:Int):List Nat:=(List.range 9).filter fun p=>hears R p n
def layer (R:Room) (o:Op):Int:=if o.layer<0∨((R.src o.source.toNat).ss.length:Int)≤o.layer then 5 else 0
def heard (R:Room) (o:Op):Int:=
 let x:=R.sub o.source.toNat o.peer.toNat
 if !x.there then 8
 else if o.kind=10∧x.paused=true then 9
 else if o.kind=11∧x.paused=false then 11
 else if o.kind≠12 then 0
 else if layer R o≠0 then layer R o
 else if x.want=o.layer then 9 else 0
def about (R:Room) (o:Op):Int:=
 let s:=R.src o.source.toNat
 if o.kind=5∨o.kind=8∨o.kind=9 then
  (if s.own≠o.peer then 10 else if o.kind=8∧s.muted=true then 9 else if o.kind=9∧s.muted=false then 11 else 0)
 else if o.kind=6 then
  (if s.own=o.peer then 10 else if (R.sub o.source.toNat o.peer.toNat).there then 9 else layer R o)
 else heard R o
def twice (R:Room) (l:List Int) (i:Nat):Bool:=(of R (l.getD i 0)).2.2 || (l.take i).contains (l.getD i 0)
def publishes (R:Room) (o:Op):Int:=
 if o.ssrcs.length<1∨3<o.ssrcs.length then 5
 else if o.ssrcs.any (fun s=>decide (s<2) || decide (3221225472≤s)) then 5
 else if (R.src o.source.toNat).there then 9
 else if (List.range o.ssrcs.length).any (twice R o.ssrcs) then 9 else 0
def sameKey (R:Room) (o:Op) (n:Nat):Bool:= !(R.names n).isEmpty && decide (key (R.names n)=key o.name)
def joins (R:Room) (o:Op):Int:=
 if joined R o.peer then 9
 else if !may o.name then 12
 else if (List.range 9).any (sameKey R o) then 9 else 0
def wrong (R:Room) (o:Op):Int:=
 if o.kind<2∨12<o.kind then 4
 else if !inn o.peer 9 then 5
 else if o.kind=2 then joins R o
 else if !joined R o.peer then 8
 else if o.kind=3 then 0
 else if !inn o.source 9 then 5
 else if o.kind=4 then publishes R o
 else if !(R.src o.source.toNat).there then 8
 else about R o
def asks (R:Room) (p n:Nat):Turn:=⟨9,(R.src n).own,n,0,(R.src n).ss.getD (R.sub n p).want.toNat 0⟩
def waits (R:Room) (p n:Nat):List Turn:=if (R.sub n p).paused || (R.src n).muted then [] else [asks R p n]
def goneGo (n:Nat):List Nat→Room→List Turn × Room
 | [],R=>([],R)
 | p :: l,R=>let x:=goneGo n l (R.setSub n p noSub);(⟨3,p,n,0,0⟩ :: ⟨2,p,n,0,0⟩ :: x.1,x.2)
def gone (R:Room) (n:Nat):List Turn × Room:=
 let x:=goneGo n (subs R n) R
 (x.1,x.2.setSrc n noSrc)
def leave1 (p:Nat) (R:Room):Nat→List Turn × Room
 | 0=>([],R)
 | k+1=>let x:=leave1 p R k;if (x.2.sub k p).there then (x.1++[⟨2,p,k,0,0⟩],x.2.setSub k p noSub) else x
def leave2 (R0:Room) (p:Nat):Nat→List Turn × Room
 | 0=>([],R0)
 | k+1=>let x:=leave2 R0 p k;if (R0.src k).there && decide ((R0.src k).own=p) then (x.1++(gone x.2 k).1,(gone x.2 k).2) else x
def leave (R:Room) (p:Nat):List Turn × Room:=
 ((leave1 p R 9).1++(leave2 (leave1 p R 9).2 p 9).1,(leave2 (leave1 p R 9).2 p 9).2.setName p [])
def begin (R:Room) (o:Op):List Turn × Room:=
 let n:=o.source.toNat;let p:=o.peer.toNat
 let R1:=R.setSub n p ⟨true,false,o.layer⟩
 (⟨1,o.peer,o.source,o.layer,0⟩ :: (if (R.src n).muted then [⟨6,o.peer,o.source,0,0⟩] else [asks R1 p n]),R1)
def muteTurns (R:Room) (n:Nat) (on:Bool) (p:Nat):List Turn:=
 if on then [⟨6,p,n,0,0⟩] else ⟨7,p,n,0,0⟩ :: waits R p n
def mute (R:Room) (n:Nat) (on:Bool):List Turn × Room:=
 let R1:=R.setSrc n {R.src n with muted:=on}
 ((subs R1 n).flatMap (muteTurns R1 n on),R1)
def turns (R:Room) (o:Op) (sv:Value):List Turn × Room:=
 let n:=o.source.toNat;let p:=o.peer.toNat;let x:=R.sub n p
 if o.kind=2 then ([],R.setName p o.name)
 else if o.kind=3 then leave R p
 else if o.kind=4 then ([],R.setSrc n ⟨true,o.source,o.peer,sv,o.ssrcs,false⟩)
 else if o.kind=5 then gone R n
 else if o.kind=6 then begin R o
 else if o.kind=7 then ([⟨2,o.peer,o.source,0,0⟩],R.setSub n p noSub)
 else if o.kind=8 then mute R n true
 else if o.kind=9 then mute R n false
 else if o.kind=10 then ([⟨4,o.peer,o.source,0,0⟩],R.setSub n p {x with paused:=true})
 else if o.kind=11 then let R1:=R.setSub n p {x with paused:=false};(⟨5,o.peer,o.source,0,0⟩ :: waits R1 p n,R1)
 else if o.kind=12 then let R1:=R.setSub n p {x with want:=o.layer};(⟨8,o.peer,o.source,o.layer,0⟩ :: waits R1 p n,R1)
 else ([],R)
def doo (R:Room) (o:Op) (sv:Value):(List Turn × Room) × Int:=if wrong R o≠0 then (([],R),wrong R o) else (turns R o sv,0)
def goneOp (R:Room) (peer ssrc:Int):(List Turn × Room) × Int:=
 if !(of R ssrc).2.2 || !joined R peer || decide ((R.src (of R ssrc).1.toNat).own≠peer) then (([],R),8) else (gone R (of R ssrc).1.toNat,0)
structure Inv (R:Room):Prop where
 none0:R.names 0=[]∧(R.src 0).there=false
 subAt:∀ n p,(R.sub n p).there=true→1≤n∧n<9∧1≤p∧p<9∧(R.src n).there=true∧R.names p≠[]∧(R.src n).own≠p∧0≤(R.sub n p).want∧(R.sub n p).want<(R.src n).ss.length
 srcAt:∀ n,(R.src n).there=true→1≤n∧n<9∧(R.src n).num=n∧joined R (R.src n).own=true∧1≤(R.src n).ss.length∧(R.src n).ss.length≤3∧(R.src n).ss.Nodup∧∀ x∈(R.src n).ss,2≤x∧x<3221225472
 apart:∀ n m x,(R.src n).there=true→(R.src m).there=true→x∈(R.src n).ss→x∈(R.src m).ss→n=m
 nameAt:∀ p,R.names p≠[]→p<9∧may (R.names p)=true
 keys:∀ p q,R.names p≠[]→key (R.names p)=key (R.names q)→p=q
end Go.Proofs.Rm
namespace Go.Proofs.Rm
open Go.Proofs.Lab (may key)
theorem setSub_sub (R:Room) (n p:Nat) (x:Sub) (m q:Nat):(R.setSub n p x).sub m q=if m=n∧q=p then x else R.sub m q:=rfl
theorem setSrc_src (R:Room) (n:Nat) (x:Src) (m:Nat):(R.setSrc n x).src m=if m=n then x else R.src m:=rfl
theorem setName_names (R:Room) (p:Nat) (s:List UInt8) (q:Nat):(R.setName p s).names q=if q=p then s else R.names q:=rfl
theorem goneGo_names (n:Nat):∀ l R,(goneGo n l R).2.names=R.names
 | [],_=>rfl
 | p :: l,R=>goneGo_names n l (R.setSub n p noSub)
theorem goneGo_src (n:Nat):∀ l R,(goneGo n l R).2.src=R.src
 | [],_=>rfl
 | p :: l,R=>goneGo_src n l (R.setSub n p noSub)
theorem goneGo_sub (n:Nat):∀ l R m q,(goneGo n l R).2.sub m q=if m=n∧q∈l then noSub else R.sub m q
 | [],R,m,q=>by simp [goneGo]
 | p :: l,R,m,q=>by
  show (goneGo n l (R.setSub n p noSub)).2.sub m q=_
  rw [goneGo_sub n l,setSub_sub]
  by_cases h1:m=n∧q∈l
  ·rw [if_pos h1,if_pos ⟨h1.1,List.mem_cons_of_mem _ h1.2⟩]
  ·rw [if_neg h1]
   by_cases h2:m=n∧q=p
   ·rw [if_pos h2,if_pos ⟨h2.1,by rw [h2.2];exact List.mem_cons_self⟩]
   ·rw [if_neg h2,if_neg]
    rintro ⟨a,b⟩
    rcases List.mem_cons.1 b with b|b
    ·exact h2 ⟨a,b⟩
    ·exact h1 ⟨a,b⟩
theorem inn_nat {n:Nat} {k:Int}:inn n k=true↔1≤n∧(n:Int)<k:=by unfold inn;simp;omega
theorem hears_nat {R:Room} {p n:Nat}:hears R p n=true↔1≤p∧p<9∧1≤n∧n<9∧(R.sub n p).there=true:=by
 unfold hears
 rw [Bool.and_eq_true,Bool.and_eq_true,inn_nat,inn_nat,Int.toNat_natCast,Int.toNat_natCast]
 exact ⟨fun ⟨⟨⟨a,b⟩,c,d⟩,e⟩=>⟨a,by omega,c,by omega,e⟩,fun ⟨a,b,c,d,e⟩=>⟨⟨⟨a,by omega⟩,c,by omega⟩,e⟩⟩
theorem mem_subs {R:Room} {n p:Nat}:p∈subs R n↔1≤p∧p<9∧1≤n∧n<9∧(R.sub n p).there=true:=by
 unfold subs
 rw [List.mem_filter,List.mem_range,hears_nat]
 exact ⟨fun ⟨_,h⟩=>h,fun h=>⟨h.2.1,h⟩⟩
theorem Inv.mem_subs {R:Room} (hI:Inv R) {n p:Nat}:p∈subs R n↔(R.sub n p).there=true:=by
 rw [Rm.mem_subs]
 constructor
 ·exact fun h=>h.2.2.2.2
 ·intro h
  have:=hI.subAt n p h
  exact ⟨this.2.2.1,this.2.2.2.1,this.1,this.2.1,h⟩
theorem gone_names (R:Room) (n:Nat):(gone R n).2.names=R.names:=goneGo_names n _ _
theorem gone_src (R:Room) (n m:Nat):(gone R n).2.src m=if m=n then noSrc else R.src m:=by
 show (((goneGo n (subs R n) R).2).setSrc n noSrc).src m=_
 rw [setSrc_src,goneGo_src]
theorem gone_sub (R:Room) (n m q:Nat):(gone R n).2.sub m q=if m=n∧q∈subs R n then noSub else R.sub m q:=goneGo_sub n _ _ m q
theorem gone_there {R:Room} (hI:Inv R) (n m q:Nat):((gone R n).2.sub m q).there=true↔m≠n∧(R.sub m q).there=true:=by
 rw [gone_sub]
 by_cases h:m=n
 ·subst h
  by_cases h2:(R.sub m q).there=true
  ·rw [if_pos ⟨rfl,hI.mem_subs.2 h2⟩];simp [noSub]
  ·rw [if_neg (fun h=>h2 (hI.mem_subs.1 h.2))];simp [h2]
 ·rw [if_neg (fun e=>h e.1)];simp [h]
theorem gone_ne (R:Room) {n m:Nat} (h:m≠n) (q:Nat):(gone R n).2.sub m q=R.sub m q:=by rw [gone_sub,if_neg (fun e=>h e.1)]
theorem joined_congr {R R':Room} (h:R'.names=R.names) (p:Int):joined R' p=joined R p:=by unfold joined;rw [h]
theorem joined_nat {R:Room} {p:Nat}:joined R p=true↔1≤p∧p<9∧R.names p≠[]:=by
 unfold joined
 rw [Bool.and_eq_true,inn_nat,Int.toNat_natCast]
 have:(!(R.names p).isEmpty)=true↔R.names p≠[]:=by simp
 rw [this]
 exact ⟨fun ⟨⟨a,b⟩,c⟩=>⟨a,by omega,c⟩,fun ⟨a,b,c⟩=>⟨⟨a,by omega⟩,c⟩⟩
theorem inv_gone {R:Room} (hI:Inv R) (n:Nat):Inv (gone R n).2:=by
 have hn:=gone_names R n
 refine ⟨?_,?_,?_,?_,?_,?_⟩
 ·rw [hn,gone_src]
  refine ⟨hI.none0.1,?_⟩
  split
  ·rfl
  ·exact hI.none0.2
 ·intro m q h
  obtain ⟨h1,h2⟩:=(gone_there hI n m q).1 h
  have:=hI.subAt m q h2
  rw [gone_ne R h1,gone_src,if_neg h1,hn]
  exact this
 ·intro m h
  rw [gone_src] at h ⊢
  by_cases h1:m=n
  ·rw [if_pos h1] at h;cases h
  ·rw [if_neg h1] at h ⊢
   rw [joined_congr hn]
   exact hI.srcAt m h
 ·intro m k x h1 h2 h3 h4
  rw [gone_src] at h1 h2 h3 h4
  by_cases hm:m=n
  ·rw [if_pos hm] at h1;cases h1
  by_cases hk:k=n
  ·rw [if_pos hk] at h2;cases h2
  rw [if_neg hm] at h1 h3
  rw [if_neg hk] at h2 h4
  exact hI.apart m k x h1 h2 h3 h4
 ·rw [hn];exact hI.nameAt
 ·rw [hn];exact hI.keys
theorem inv_end {R:Room} (hI:Inv R) (n p:Nat):Inv (R.setSub n p noSub):=by
 refine ⟨hI.none0,?_,hI.srcAt,hI.apart,hI.nameAt,hI.keys⟩
 intro m q h
 rw [setSub_sub] at h ⊢
 by_cases h1:m=n∧q=p
 ·rw [if_pos h1] at h;cases h
 ·rw [if_neg h1] at h ⊢
  exact hI.subAt m q h
theorem inv_leave1 {R:Room} (hI:Inv R) (p:Nat):∀ k,Inv (leave1 p R k).2
 | 0=>hI
 | k+1=>by
  unfold leave1
  dsimp only
  split
  ·exact inv_end (inv_leave1 hI p k) k p
  ·exact inv_leave1 hI p k
theorem inv_leave2 {R:Room} (hI:Inv R) (p:Nat):∀ k,Inv (leave2 R p k).2
 | 0=>hI
 | k+1=>by
  unfold leave2
  dsimp only
  split
  ·exact inv_gone (inv_leave2 hI p k) k
  ·exact inv_leave2 hI p k
theorem leave1_names (R:Room) (p:Nat):∀ k,(leave1 p R k).2.names=R.names∧(leave1 p R k).2.src=R.src
 | 0=>⟨rfl,rfl⟩
 | k+1=>by
  unfold leave1
  dsimp only
  split
  ·exact leave1_names R p k
  ·exact leave1_names R p k
theorem leave1_there (R:Room) (p:Nat):∀ k m q,((leave1 p R k).2.sub m q).there=((R.sub m q).there && !(decide (q=p) && decide (m<k)))
 | 0,m,q=>by simp [leave1]
 | k+1,m,q=>by
  have ih:=leave1_there R p k
  unfold leave1
  dsimp only
  by_cases ht:((leave1 p R k).2.sub k p).there=true
  ·rw [if_pos ht]
   dsimp only
   rw [setSub_sub]
   by_cases h:m=k∧q=p
   ·rw [if_pos h,h.1,h.2];simp [noSub]
   ·rw [if_neg h,ih]
    by_cases hq:q=p
    ·have:m≠k:=fun e=>h ⟨e,hq⟩
     simp [hq]
     by_cases hm:m<k
     ·simp [hm,Nat.lt_succ_of_lt hm]
     ·have:¬m<k+1:=by omega
      simp [hm,this]
    ·simp [hq]
  ·rw [if_neg ht,ih]
   by_cases hq:q=p
   ·by_cases hm:m=k
    ·subst hm;subst hq
     rw [ih] at ht
     simp at ht
     simp [ht]
    ·simp [hq]
     by_cases hm2:m<k
     ·simp [hm2,Nat.lt_succ_of_lt hm2]
     ·have:¬m<k+1:=by omega
      simp [hm2,this]
   ·simp [hq]
theorem leave2_src (R:Room) (p:Nat):∀ k m,(leave2 R p k).2.src m=if m<k∧(R.src m).there=true∧(R.src m).own=p then noSrc else R.src m
 | 0,m=>by simp [leave2]
 | k+1,m=>by
  have ih:=leave2_src R p k m
  unfold leave2
  dsimp only
  by_cases hc:((R.src k).there && decide ((R.src k).own=p))=true
  ·rw [if_pos hc]
   dsimp only
   rw [gone_src]
   rw [Bool.and_eq_true,decide_eq_true_eq] at hc
   by_cases hm:m=k
   ·subst hm;rw [if_pos rfl,if_pos ⟨by omega,hc.1,hc.2⟩]
   ·rw [if_neg hm,ih]
    have:m<k+1↔m<k:=by omega
    simp only [this]
  ·rw [if_neg hc,ih]
   rw [Bool.and_eq_true,decide_eq_true_eq] at hc
   by_cases hm:m=k
   ·subst hm
    rw [if_neg (by omega),if_neg (fun h=>hc ⟨h.2.1,h.2.2⟩)]
   ·have:m<k+1↔m<k:=by omega
    simp only [this]
theorem leave2_there {R:Room} (hI:Inv R) (p:Nat):∀ k m q,((leave2 R p k).2.sub m q).there=true↔(R.sub m q).there=true∧¬(m<k∧(R.src m).there=true∧(R.src m).own=p)
 | 0,m,q=>by simp [leave2]
 | k+1,m,q=>by
  have ih:=leave2_there hI p k m q
  unfold leave2
  dsimp only
  by_cases hc:((R.src k).there && decide ((R.src k).own=p))=true
  ·rw [if_pos hc]
   dsimp only
   rw [gone_there (inv_leave2 hI p k),ih]
   rw [Bool.and_eq_true,decide_eq_true_eq] at hc
   by_cases hm:m=k
   ·subst hm
    constructor
    ·rintro ⟨h,_⟩;exact absurd rfl h
    ·rintro ⟨_,h⟩;exact absurd ⟨by omega,hc⟩ h
   ·have:m<k+1↔m<k:=by omega
    rw [this]
    exact ⟨fun h=>h.2,fun h=>⟨hm,h⟩⟩
  ·rw [if_neg hc,ih]
   rw [Bool.and_eq_true,decide_eq_true_eq] at hc
   by_cases hm:m=k
   ·subst hm
    constructor
    ·rintro ⟨h,_⟩;exact ⟨h,fun e=>hc e.2⟩
    ·rintro ⟨h,_⟩;exact ⟨h,fun e=>by omega⟩
   ·have:m<k+1↔m<k:=by omega
    rw [this]
theorem key_ne_nil {l:List UInt8} (h:may l=true):key l≠[]:=by
 intro e
 have h1:=(Lab.key_laws l h).1
 rw [e] at h1
 have:l=[]:=List.eq_nil_of_length_eq_zero h1.symm
 subst this
 cases h
theorem inv_noname {R:Room} (hI:Inv R) (p:Nat) (hs:∀ m,(R.src m).there=true→(R.src m).own≠p) (hu:∀ m,(R.sub m p).there=false):Inv (R.setName p []):=by
 refine ⟨⟨?_,hI.none0.2⟩,?_,?_,hI.apart,?_,?_⟩
 ·rw [setName_names];split
  ·rfl
  ·exact hI.none0.1
 ·intro m q h
  have h0:=hI.subAt m q h
  have hq:q≠p:=by
   rintro rfl
   have h2:=hu m
   have h3:(R.sub m q).there=true:=h
   rw [h2] at h3;cases h3
  rw [setName_names,if_neg hq]
  exact h0
 ·intro m h
  obtain ⟨h1,h2,h3,h4,h5⟩:=hI.srcAt m h
  refine ⟨h1,h2,h3,?_,h5⟩
  have ho:=hs m h
  show joined (R.setName p []) (R.src m).own=true
  unfold joined at h4 ⊢
  rw [Bool.and_eq_true] at h4 ⊢
  refine ⟨h4.1,?_⟩
  rw [setName_names,if_neg]
  ·exact h4.2
  ·intro e
   have:=h4.1
   unfold inn at this
   simp at this
   omega
 ·intro q h
  rw [setName_names] at h ⊢
  by_cases hq:q=p
  ·rw [if_pos hq] at h;exact absurd rfl h
  ·rw [if_neg hq] at h ⊢;exact hI.nameAt q h
 ·intro q r h e
  rw [setName_names] at h e
  by_cases hq:q=p
  ·rw [if_pos hq] at h;exact absurd rfl h
  rw [if_neg hq] at h e
  rw [setName_names] at e
  by_cases hr:r=p
  ·rw [if_pos hr] at e
   exact absurd e (key_ne_nil (hI.nameAt q h).2)
  ·rw [if_neg hr] at e
   exact hI.keys q r h e
theorem inv_leave {R:Room} (hI:Inv R) (p:Nat):Inv (leave R p).2:=by
 have h1:=inv_leave1 hI p 9
 refine inv_noname (inv_leave2 h1 p 9) p ?_ ?_
 ·intro m h
  rw [leave2_src] at h ⊢
  by_cases hc:m<9∧((leave1 p R 9).2.src m).there=true∧((leave1 p R 9).2.src m).own=p
  ·rw [if_pos hc] at h;cases h
  ·rw [if_neg hc] at h ⊢
   intro e
   exact hc ⟨(h1.srcAt m h).2.1,h,e⟩
 ·intro m
  rw [Bool.eq_false_iff]
  intro h
  have h2:=((leave2_there h1 p 9 m p).1 h).1
  have h3:=h1.subAt m p h2
  rw [leave1_there] at h2
  simp at h2
  omega
end Go.Proofs.Rm
namespace Go.Proofs.Rm
open Go.Proofs.Lab (may key)
structure Ok (R:Room) (o:Op):Prop where
 kind:2≤o.kind∧o.kind≤12
 peer:1≤o.peer∧o.peer<9
 join:o.kind=2→joins R o=0
 there:o.kind≠2→joined R o.peer=true
 src:4≤o.kind→1≤o.source∧o.source<9
 pub:o.kind=4→publishes R o=0
 is:5≤o.kind→(R.src o.source.toNat).there=true
 abt:5≤o.kind→about R o=0
theorem inn_iff' (n k:Int):inn n k=true↔1≤n∧n<k:=by unfold inn;simp
theorem wrong_ok {R:Room} {o:Op} (h:wrong R o=0):Ok R o:=by
 unfold wrong at h
 by_cases h1:o.kind<2∨12<o.kind
 ·rw [if_pos h1] at h;exact absurd h (by decide)
 rw [if_neg h1] at h
 by_cases h2:inn o.peer 9=true
 rotate_left
 ·simp [h2] at h
 simp only [h2,Bool.not_true,Bool.false_eq_true,if_false] at h
 have hp:=(inn_iff' _ _).1 h2
 by_cases h3:o.kind=2
 ·rw [if_pos h3] at h
  exact ⟨by omega,hp,fun _=>h,fun e=>absurd h3 e,by omega,by omega,by omega,by omega⟩
 rw [if_neg h3] at h
 by_cases h4:joined R o.peer=true
 rotate_left
 ·simp [h4] at h
 simp only [h4,Bool.not_true,Bool.false_eq_true,if_false] at h
 by_cases h5:o.kind=3
 ·exact ⟨by omega,hp,by omega,fun _=>h4,by omega,by omega,by omega,by omega⟩
 rw [if_neg h5] at h
 by_cases h6:inn o.source 9=true
 rotate_left
 ·simp [h6] at h
 simp only [h6,Bool.not_true,Bool.false_eq_true,if_false] at h
 have hs:=(inn_iff' _ _).1 h6
 by_cases h7:o.kind=4
 ·rw [if_pos h7] at h
  exact ⟨by omega,hp,by omega,fun _=>h4,fun _=>hs,fun _=>h,by omega,by omega⟩
 rw [if_neg h7] at h
 by_cases h8:(R.src o.source.toNat).there=true
 rotate_left
 ·simp [h8] at h
 simp only [h8,Bool.not_true,Bool.false_eq_true,if_false] at h
 exact ⟨by omega,hp,by omega,fun _=>h4,fun _=>hs,by omega,fun _=>h8,fun _=>h⟩
theorem layer_ok {R:Room} {o:Op} (h:layer R o=0):0≤o.layer∧o.layer<(R.src o.source.toNat).ss.length:=by
 unfold layer at h
 by_cases h1:o.layer<0∨((R.src o.source.toNat).ss.length:Int)≤o.layer
 ·rw [if_pos h1] at h;exact absurd h (by decide)
 ·omega
theorem about_sub {R:Room} {o:Op} (h:about R o=0) (hk:o.kind=6):(R.src o.source.toNat).own≠o.peer∧(R.sub o.source.toNat o.peer.toNat).there=false∧layer R o=0:=by
 unfold about at h
 dsimp only at h
 rw [if_neg (by omega),if_pos hk] at h
 by_cases h1:(R.src o.source.toNat).own=o.peer
 ·rw [if_pos h1] at h;exact absurd h (by decide)
 rw [if_neg h1] at h
 cases ht:(R.sub o.source.toNat o.peer.toNat).there
 ·rw [ht] at h;exact ⟨h1,rfl,h⟩
 ·rw [ht] at h;simp at h
theorem about_hear {R:Room} {o:Op} (h:about R o=0) (hk:o.kind=7∨10≤o.kind) :
  (R.sub o.source.toNat o.peer.toNat).there=true∧(o.kind=10→(R.sub o.source.toNat o.peer.toNat).paused=false)∧(o.kind=11→(R.sub o.source.toNat o.peer.toNat).paused=true)∧(o.kind=12→layer R o=0∧(R.sub o.source.toNat o.peer.toNat).want≠o.layer):=by
 unfold about at h
 dsimp only at h
 rw [if_neg (by omega),if_neg (by omega)] at h
 unfold heard at h
 dsimp only at h
 cases ht:(R.sub o.source.toNat o.peer.toNat).there
 ·rw [ht] at h;simp at h
 rw [ht] at h
 simp only [Bool.not_true,Bool.false_eq_true,if_false] at h
 refine ⟨rfl,?_,?_,?_⟩
 ·intro h10
  cases hm:(R.sub o.source.toNat o.peer.toNat).paused
  ·rfl
  ·rw [if_pos ⟨h10,hm⟩] at h;exact absurd h (by decide)
 ·intro h11
  rw [if_neg (by omega)] at h
  cases hm:(R.sub o.source.toNat o.peer.toNat).paused
  ·rw [if_pos ⟨h11,hm⟩] at h;exact absurd h (by decide)
  ·rfl
 ·intro h12
  rw [if_neg (by omega),if_neg (by omega),if_neg (by omega)] at h
  by_cases hl:layer R o=0
  ·rw [if_neg (by omega)] at h
   refine ⟨hl,fun e=>?_⟩
   rw [if_pos e] at h;exact absurd h (by decide)
  ·rw [if_pos hl] at h;exact absurd h hl
theorem index_mem (l:List Int) (x:Int):0≤index l x↔x∈l:=by
 unfold index
 cases h:l.findIdx? (fun y=>y == x) with
 | none=>
  have:=List.findIdx?_eq_none_iff.1 h
  constructor
  ·intro h;exact absurd h (by decide)
  ·intro hx;have:=this x hx;simp at this
 | some i=>
  obtain ⟨hi,h1,_⟩:=List.findIdx?_eq_some_iff_getElem.1 h
  have h1:l[i]=x:=by simpa using h1
  exact ⟨fun _=>by rw [←h1];exact List.getElem_mem hi,fun _=>Int.natCast_nonneg _⟩
theorem ofGo_none (R:Room) (x:Int):∀ k n,(ofGo R x k n).2.2=false↔∀ m,n≤m→m<n+k→(R.src m).there=true→x ∉ (R.src m).ss
 | 0,n=>by simp [ofGo];omega
 | k+1,n=>by
  unfold ofGo
  by_cases hc:((R.src n).there && decide (0≤index (R.src n).ss x))=true
  ·rw [if_pos hc]
   rw [Bool.and_eq_true,decide_eq_true_eq,index_mem] at hc
   constructor
   ·intro h;cases h
   ·intro h;exact absurd hc.2 (h n (Nat.le_refl _) (by omega) hc.1)
  ·rw [if_neg hc,ofGo_none R x k (n+1)]
   rw [Bool.and_eq_true,decide_eq_true_eq,index_mem] at hc
   constructor
   ·intro h m h1 h2 h3 h4
    by_cases e:m=n
    ·subst e;exact hc ⟨h3,h4⟩
    ·exact h m (by omega) (by omega) h3 h4
   ·intro h m h1 h2;exact h m (by omega) (by omega)
theorem of_none {R:Room} {x:Int}:(of R x).2.2=false↔∀ m,m<9→(R.src m).there=true→x ∉ (R.src m).ss:=by
 unfold of
 rw [ofGo_none]
 exact ⟨fun h m hm=>h m (Nat.zero_le _) (by omega),fun h m _ hm=>h m (by omega)⟩
theorem ofGo_some (R:Room) (x:Int):∀ k n,(ofGo R x k n).2.2=true→∃ m:Nat,n≤m∧m<n+k∧(R.src m).there=true∧x∈(R.src m).ss∧ofGo R x k n=((m:Int),index (R.src m).ss x,true)
 | 0,n,h=>by simp [ofGo] at h
 | k+1,n,h=>by
  unfold ofGo at h ⊢
  by_cases hc:((R.src n).there && decide (0≤index (R.src n).ss x))=true
  ·rw [if_pos hc] at h ⊢
   rw [Bool.and_eq_true,decide_eq_true_eq,index_mem] at hc
   exact ⟨n,Nat.le_refl _,by omega,hc.1,hc.2,rfl⟩
  ·rw [if_neg hc] at h ⊢
   obtain ⟨m,h1,h2,h3⟩:=ofGo_some R x k (n+1) h
   exact ⟨m,by omega,by omega,h3⟩
theorem of_some {R:Room} {x:Int} (h:(of R x).2.2=true):∃ m:Nat,m<9∧(R.src m).there=true∧x∈(R.src m).ss∧of R x=((m:Int),index (R.src m).ss x,true):=by
 obtain ⟨m,_,h2,h3⟩:=ofGo_some R x 9 0 h
 exact ⟨m,by omega,h3⟩
theorem nodup_of_twice (l:List Int) (h:∀ i,i<l.length→(l.take i).contains (l.getD i 0)=false):l.Nodup:=by
 unfold List.Nodup
 rw [List.pairwise_iff_getElem]
 intro i j hi hj hij e
 have:=h j hj
 rw [List.getD_eq_getElem?_getD,List.getElem?_eq_getElem hj,Option.getD_some] at this
 rw [←e] at this
 have hm:l[i]∈l.take j:=by
  rw [List.mem_iff_getElem]
  exact ⟨i,by rw [List.length_take];omega,by rw [List.getElem_take]⟩
 rw [List.contains_iff_mem.2 hm] at this
 cases this
theorem pub_ok {R:Room} {o:Op} (h:publishes R o=0):1≤o.ssrcs.length∧o.ssrcs.length≤3∧(∀ s∈o.ssrcs,2≤s∧s<3221225472)∧(R.src o.source.toNat).there=false∧o.ssrcs.Nodup∧∀ m x,m<9→(R.src m).there=true→x∈o.ssrcs→x ∉ (R.src m).ss:=by
 unfold publishes at h
 by_cases h1:o.ssrcs.length<1∨3<o.ssrcs.length
 ·rw [if_pos h1] at h;exact absurd h (by decide)
 rw [if_neg h1] at h
 by_cases h2:o.ssrcs.any (fun s=>decide (s<2) || decide (3221225472≤s))=true
 ·rw [if_pos h2] at h;exact absurd h (by decide)
 rw [if_neg h2] at h
 by_cases h3:(R.src o.source.toNat).there=true
 ·rw [if_pos h3] at h;exact absurd h (by decide)
 rw [if_neg h3] at h
 by_cases h4:(List.range o.ssrcs.length).any (twice R o.ssrcs)=true
 ·rw [if_pos h4] at h;exact absurd h (by decide)
 have h5:∀ i,i<o.ssrcs.length→(of R (o.ssrcs.getD i 0)).2.2=false∧(o.ssrcs.take i).contains (o.ssrcs.getD i 0)=false:=by
  intro i hi
  have:¬twice R o.ssrcs i=true:=fun e=>h4 (List.any_eq_true.2 ⟨i,by simpa using hi,e⟩)
  unfold twice at this
  rw [Bool.or_eq_true] at this
  exact ⟨Bool.eq_false_iff.2 fun e=>this (Or.inl e),Bool.eq_false_iff.2 fun e=>this (Or.inr e)⟩
 refine ⟨by omega,by omega,?_,by simpa using h3,nodup_of_twice _ fun i hi=>(h5 i hi).2,?_⟩
 ·intro s hs
  have:¬(decide (s<2) || decide (3221225472≤s))=true:=fun e=>h2 (List.any_eq_true.2 ⟨s,hs,e⟩)
  simp at this;omega
 ·intro m x hm ht hx
  obtain ⟨i,hi,rfl⟩:=List.getElem_of_mem hx
  have:=(h5 i hi).1
  rw [List.getD_eq_getElem?_getD,List.getElem?_eq_getElem hi,Option.getD_some,of_none] at this
  exact this m hm ht
theorem join_ok {R:Room} {o:Op} (h:joins R o=0):joined R o.peer=false∧may o.name=true∧∀ q,q<9→R.names q≠[]→key (R.names q)≠key o.name:=by
 unfold joins at h
 cases h1:joined R o.peer
 rotate_left
 ·rw [h1] at h;simp at h
 rw [h1] at h
 cases h2:may o.name
 ·rw [h2] at h;simp at h
 rw [h2] at h
 simp only [Bool.false_eq_true,if_false,Bool.not_true] at h
 by_cases h3:(List.range 9).any (sameKey R o)=true
 ·rw [if_pos h3] at h;exact absurd h (by decide)
 refine ⟨rfl,rfl,fun q hq hn e=>h3 (List.any_eq_true.2 ⟨q,by simpa using hq,?_⟩)⟩
 unfold sameKey
 simp [hn,e]
theorem may_ne {l:List UInt8} (h:may l=true):l≠[]:=by rintro rfl;cases h
theorem inv_empty:Inv empty:=by
 refine ⟨⟨rfl,rfl⟩,?_,?_,?_,?_,?_⟩
 ·intro n p h;cases h
 ·intro n h;cases h
 ·intro n m x h;cases h
 ·intro p h;exact absurd rfl h
 ·intro p q h;exact absurd rfl h
theorem inv_join {R:Room} (hI:Inv R) {p:Nat} {nm:List UInt8} (hp:1≤p∧p<9) (h0:R.names p=[]) (hm:may nm=true) (hk:∀ q,q<9→R.names q≠[]→key (R.names q)≠key nm):Inv (R.setName p nm):=by
 have hjoin:∀ q,joined R q=true→joined (R.setName p nm) q=true:=by
  intro q h
  unfold joined at h ⊢
  rw [Bool.and_eq_true] at h ⊢
  refine ⟨h.1,?_⟩
  rw [setName_names]
  split
  ·have:=may_ne hm
   simp [this]
  ·exact h.2
 refine ⟨⟨?_,hI.none0.2⟩,?_,?_,hI.apart,?_,?_⟩
 ·rw [setName_names,if_neg (by omega)];exact hI.none0.1
 ·intro n q h
  have:=hI.subAt n q h
  have hq:q≠p:=by rintro rfl;exact this.2.2.2.2.2.1 h0
  rw [setName_names,if_neg hq]
  exact this
 ·intro n h
  obtain ⟨h1,h2,h3,h4,h5⟩:=hI.srcAt n h
  exact ⟨h1,h2,h3,hjoin _ h4,h5⟩
 ·intro q h
  rw [setName_names] at h ⊢
  by_cases hq:q=p
  ·rw [if_pos hq];exact ⟨by omega,hm⟩
  ·rw [if_neg hq] at h ⊢;exact hI.nameAt q h
 ·intro q r h e
  rw [setName_names] at h
  rw [setName_names,setName_names] at e
  by_cases hq:q=p
  ·rw [if_pos hq] at e
   by_cases hr:r=p
   ·omega
   ·rw [if_neg hr] at e
    by_cases hn:R.names r=[]
    ·rw [hn] at e;exact absurd e (key_ne_nil hm)
    ·exact absurd e.symm (hk r (hI.nameAt r hn).1 hn)
  ·rw [if_neg hq] at h e
   by_cases hr:r=p
   ·rw [if_pos hr] at e
    exact absurd e (hk q (hI.nameAt q h).1 h)
   ·rw [if_neg hr] at e;exact hI.keys q r h e
theorem inv_publish {R:Room} (hI:Inv R) {n p:Nat} {sv:Value} {ss:List Int} (hn:1≤n∧n<9) (hp:joined R p=true) (h0:(R.src n).there=false) (h1:1≤ss.length) (h3:ss.length≤3) (hr:∀ s∈ss,2≤s∧s<3221225472) (hd:ss.Nodup) (hx:∀ m x,m<9→(R.src m).there=true→x∈ss→x ∉ (R.src m).ss) :
  Inv (R.setSrc n ⟨true,n,p,sv,ss,false⟩):=by
 refine ⟨⟨hI.none0.1,?_⟩,?_,?_,?_,hI.nameAt,hI.keys⟩
 ·rw [setSrc_src,if_neg (by omega)];exact hI.none0.2
 ·intro m q h
  have:=hI.subAt m q h
  have hm:m≠n:=by rintro rfl;rw [h0] at this;exact absurd this.2.2.2.2.1 (by decide)
  rw [setSrc_src,if_neg hm]
  exact this
 ·intro m h
  rw [setSrc_src] at h ⊢
  by_cases hm:m=n
  ·rw [if_pos hm]
   exact ⟨by omega,by omega,by rw [hm],hp,h1,h3,hd,hr⟩
  ·rw [if_neg hm] at h ⊢;exact hI.srcAt m h
 ·intro m k x a b c d
  rw [setSrc_src] at a b c d
  by_cases hm:m=n
  ·by_cases hk:k=n
   ·omega
   ·rw [if_neg hk] at b d;rw [if_pos hm] at c
    exact absurd d (hx k x (hI.srcAt k b).2.1 b c)
  ·rw [if_neg hm] at a c
   by_cases hk:k=n
   ·rw [if_pos hk] at d
    exact absurd c (hx m x (hI.srcAt m a).2.1 a d)
   ·rw [if_neg hk] at b d;exact hI.apart m k x a b c d
theorem inv_sub {R:Room} (hI:Inv R) {n p:Nat} {x:Sub} (h:x.there=true→1≤n∧n<9∧1≤p∧p<9∧(R.src n).there=true∧R.names p≠[]∧(R.src n).own≠p∧0≤x.want∧x.want<(R.src n).ss.length):Inv (R.setSub n p x):=by
 refine ⟨hI.none0,?_,hI.srcAt,hI.apart,hI.nameAt,hI.keys⟩
 intro m q ht
 rw [setSub_sub] at ht ⊢
 by_cases h1:m=n∧q=p
 ·rw [if_pos h1] at ht ⊢
  rw [h1.1,h1.2]
  exact h ht
 ·rw [if_neg h1] at ht ⊢;exact hI.subAt m q ht
theorem inv_muted {R:Room} (hI:Inv R) (n:Nat) (on:Bool):Inv (R.setSrc n {R.src n with muted:=on}):=by
 have key:∀ m,((R.setSrc n {R.src n with muted:=on}).src m).there=(R.src m).there∧((R.setSrc n {R.src n with muted:=on}).src m).ss=(R.src m).ss∧((R.setSrc n {R.src n with muted:=on}).src m).own=(R.src m).own∧((R.setSrc n {R.src n with muted:=on}).src m).num=(R.src m).num:=by
  intro m
  rw [setSrc_src]
  split
  ·rename_i h;subst h;exact ⟨rfl,rfl,rfl,rfl⟩
  ·exact ⟨rfl,rfl,rfl,rfl⟩
 refine ⟨⟨hI.none0.1,?_⟩,?_,?_,?_,hI.nameAt,hI.keys⟩
 ·rw [(key 0).1];exact hI.none0.2
 ·intro m q h
  rw [(key m).1,(key m).2.1,(key m).2.2.1]
  exact hI.subAt m q h
 ·intro m h
  rw [(key m).1] at h
  rw [(key m).2.1,(key m).2.2.1,(key m).2.2.2]
  exact hI.srcAt m h
 ·intro m k x a b c d
  rw [(key m).1] at a;rw [(key k).1] at b;rw [(key m).2.1] at c;rw [(key k).2.1] at d
  exact hI.apart m k x a b c d
set_option maxHeartbeats 1000000 in
theorem inv_turns {R:Room} {o:Op} (hI:Inv R) (ok:Ok R o) (sv:Value):Inv (turns R o sv).2:=by
 obtain ⟨kd,p,n,q,nm,ss⟩:=o
 obtain ⟨hk,hp,hj,ht,hs,hpub,his,habt⟩:=ok
 dsimp only at *
 obtain ⟨p,rfl⟩:=Int.eq_ofNat_of_zero_le (show 0≤p by omega)
 by_cases k2:kd=2
 ·subst k2
  obtain ⟨h1,h2,h3⟩:=join_ok (hj rfl)
  show Inv (R.setName p nm)
  refine inv_join hI (p:=p) (by omega) ?_ h2 h3
  rw [Bool.eq_false_iff,ne_eq,joined_nat] at h1
  exact Classical.not_not.1 fun e=>h1 ⟨by omega,by omega,e⟩
 have hjp:=joined_nat.1 (ht k2)
 by_cases k3:kd=3
 ·subst k3;show Inv (leave R p).2;exact inv_leave hI p
 obtain ⟨n,rfl⟩:=Int.eq_ofNat_of_zero_le (show 0≤n by have:=hs (by omega);omega)
 have hn:=hs (by omega)
 by_cases k4:kd=4
 ·subst k4
  obtain ⟨h1,h2,h3,h4,h5,h6⟩:=pub_ok (hpub rfl)
  show Inv (R.setSrc n ⟨true,n,p,sv,ss,false⟩)
  exact inv_publish hI (by omega) (ht k2) h4 h1 h2 h3 h5 h6
 have his:=his (by omega)
 have his':(R.src n).there=true:=by rw [Int.toNat_natCast] at his;exact his
 have habt:=habt (by omega)
 have hbase:(R.sub n p).there=true→1≤n∧n<9∧1≤p∧p<9∧(R.src n).there=true∧R.names p≠[]∧(R.src n).own≠p∧0≤(R.sub n p).want∧(R.sub n p).want<(R.src n).ss.length:=hI.subAt n p
 by_cases k5:kd=5
 ·subst k5;show Inv (gone R n).2;exact inv_gone hI n
 by_cases k6:kd=6
 ·subst k6
  obtain ⟨h1,h2,h3⟩:=about_sub habt rfl
  have h4:=layer_ok h3
  show Inv (R.setSub n p ⟨true,false,q⟩)
  exact inv_sub hI fun _=>⟨by omega,by omega,by omega,by omega,his',hjp.2.2,h1,h4.1,h4.2⟩
 by_cases k7:kd=7
 ·subst k7;show Inv (R.setSub n p noSub);exact inv_end hI n p
 by_cases k8:kd=8
 ·subst k8;show Inv (R.setSrc n {R.src n with muted:=true});exact inv_muted hI n true
 by_cases k9:kd=9
 ·subst k9;show Inv (R.setSrc n {R.src n with muted:=false});exact inv_muted hI n false
 obtain ⟨h1,_,_,h4⟩:=about_hear habt (by right;show 10≤kd;omega)
 have hb:=hbase h1
 by_cases k10:kd=10
 ·subst k10;show Inv (R.setSub n p {R.sub n p with paused:=true});exact inv_sub hI fun _=>hb
 by_cases k11:kd=11
 ·subst k11;show Inv (R.setSub n p {R.sub n p with paused:=false});exact inv_sub hI fun _=>hb
 have k12:kd=12:=by omega
 subst k12
 have h5:=layer_ok (h4 rfl).1
 show Inv (R.setSub n p {R.sub n p with want:=q})
 exact inv_sub hI fun _=>⟨hb.1,hb.2.1,hb.2.2.1,hb.2.2.2.1,hb.2.2.2.2.1,hb.2.2.2.2.2.1,hb.2.2.2.2.2.2.1,h5.1,h5.2⟩
theorem inv_doo {R:Room} (hI:Inv R) (o:Op) (sv:Value):Inv (doo R o sv).1.2:=by
 unfold doo
 by_cases h:wrong R o=0
 ·rw [if_neg (by simpa using h)];exact inv_turns hI (wrong_ok h) sv
 ·rw [if_pos h];exact hI
theorem inv_goneOp {R:Room} (hI:Inv R) (p x:Int):Inv (goneOp R p x).1.2:=by
 unfold goneOp
 split
 ·exact hI
 ·exact inv_gone hI _
end Go.Proofs.Rm
namespace Go.Proofs.Rm
open Go.Proofs.Lab (may key)
def Src.bare (s:Src):Src:={s with sv:= .slice none 0 0}
def Room.bare (R:Room):Room:=⟨R.names,fun n=>(R.src n).bare,R.sub⟩
theorem ofGo_bare (R:Room) (x:Int):∀ k n,ofGo R.bare x k n=ofGo R x k n
 | 0,_=>rfl
 | k+1,n=>by
  show (if (R.src n).there && decide (0≤index (R.src n).ss x) then ((n:Int),index (R.src n).ss x,true) else ofGo R.bare x k (n+1))=_
  rw [ofGo_bare R x k (n+1)]
  rfl
theorem of_bare (R:Room) (x:Int):of R.bare x=of R x:=ofGo_bare R x 9 0
theorem twice_bare (R:Room) (l:List Int):twice R.bare l=twice R l:=by
 funext i
 unfold twice
 rw [of_bare]
theorem publishes_bare (R:Room) (o:Op):publishes R.bare o=publishes R o:=by
 unfold publishes
 rw [twice_bare]
 rfl
theorem wrong_bare (R:Room) (o:Op):wrong R.bare o=wrong R o:=by
 unfold wrong
 rw [publishes_bare]
 rfl
theorem bare_setSrc (R:Room) (n:Nat) (x:Src):(R.setSrc n x).bare=R.bare.setSrc n x.bare:=by
 unfold Room.setSrc Room.bare
 congr 1
 funext m
 dsimp only
 split <;> rfl
theorem goneGo_bare (n:Nat):∀ l R,goneGo n l R.bare=((goneGo n l R).1,(goneGo n l R).2.bare)
 | [],R=>rfl
 | p :: l,R=>by
  have ih:=goneGo_bare n l (R.setSub n p noSub)
  show ((⟨3,p,n,0,0⟩:Turn) :: ⟨2,p,n,0,0⟩ :: (goneGo n l (R.setSub n p noSub).bare).1,(goneGo n l (R.setSub n p noSub).bare).2)=_
  rw [ih]
  rfl
theorem gone_bare (R:Room) (n:Nat):gone R.bare n=((gone R n).1,(gone R n).2.bare):=by
 unfold gone
 dsimp only
 rw [show subs R.bare n=subs R n from rfl,goneGo_bare,bare_setSrc]
 rfl
theorem leave1_bare (p:Nat) (R:Room):∀ k,leave1 p R.bare k=((leave1 p R k).1,(leave1 p R k).2.bare)
 | 0=>rfl
 | k+1=>by
  have ih:=leave1_bare p R k
  unfold leave1
  dsimp only
  rw [ih]
  dsimp only
  show (if ((leave1 p R k).2.sub k p).there=true then _ else _)=_
  split <;> rfl
theorem leave2_bare (R:Room) (p:Nat):∀ k,leave2 R.bare p k=((leave2 R p k).1,(leave2 R p k).2.bare)
 | 0=>rfl
 | k+1=>by
  have ih:=leave2_bare R p k
  unfold leave2
  dsimp only
  rw [ih]
  dsimp only
  rw [gone_bare]
  show (if ((R.src k).there && decide ((R.src k).own=p))=true then _ else _)=_
  split <;> rfl
theorem leave_bare (R:Room) (p:Nat):leave R.bare p=((leave R p).1,(leave R p).2.bare):=by
 unfold leave
 rw [leave1_bare,leave2_bare]
 rfl
theorem begin_bare (R:Room) (o:Op):begin R.bare o=((begin R o).1,(begin R o).2.bare):=rfl
theorem mute_bare (R:Room) (n:Nat) (on:Bool):mute R.bare n on=((mute R n on).1,(mute R n on).2.bare):=by
 have h:R.bare.setSrc n {R.bare.src n with muted:=on}=(R.setSrc n {R.src n with muted:=on}).bare:=by rw [bare_setSrc];rfl
 unfold mute
 dsimp only
 rw [h]
 rfl
theorem turns_bare (R:Room) (o:Op) (sv sv':Value):(turns R.bare o sv').1=(turns R o sv).1∧(turns R.bare o sv').2.bare=(turns R o sv).2.bare:=by
 have bb:∀ Q:Room,Q.bare.bare=Q.bare:=fun _=>rfl
 unfold turns
 dsimp only
 by_cases k2:o.kind=2
 ·rw [if_pos k2,if_pos k2];exact ⟨rfl,rfl⟩
 rw [if_neg k2,if_neg k2]
 by_cases k3:o.kind=3
 ·rw [if_pos k3,if_pos k3,leave_bare];exact ⟨rfl,rfl⟩
 rw [if_neg k3,if_neg k3]
 by_cases k4:o.kind=4
 ·rw [if_pos k4,if_pos k4];exact ⟨rfl,by rw [bare_setSrc,bare_setSrc];rfl⟩
 rw [if_neg k4,if_neg k4]
 by_cases k5:o.kind=5
 ·rw [if_pos k5,if_pos k5,gone_bare];exact ⟨rfl,rfl⟩
 rw [if_neg k5,if_neg k5]
 by_cases k6:o.kind=6
 ·rw [if_pos k6,if_pos k6,begin_bare];exact ⟨rfl,rfl⟩
 rw [if_neg k6,if_neg k6]
 by_cases k7:o.kind=7
 ·rw [if_pos k7,if_pos k7];exact ⟨rfl,rfl⟩
 rw [if_neg k7,if_neg k7]
 by_cases k8:o.kind=8
 ·rw [if_pos k8,if_pos k8,mute_bare];exact ⟨rfl,rfl⟩
 rw [if_neg k8,if_neg k8]
 by_cases k9:o.kind=9
 ·rw [if_pos k9,if_pos k9,mute_bare];exact ⟨rfl,rfl⟩
 rw [if_neg k9,if_neg k9]
 by_cases k10:o.kind=10
 ·rw [if_pos k10,if_pos k10];exact ⟨rfl,rfl⟩
 rw [if_neg k10,if_neg k10]
 by_cases k11:o.kind=11
 ·rw [if_pos k11,if_pos k11];exact ⟨rfl,rfl⟩
 rw [if_neg k11,if_neg k11]
 by_cases k12:o.kind=12
 ·rw [if_pos k12,if_pos k12];exact ⟨rfl,rfl⟩
 rw [if_neg k12,if_neg k12]
 exact ⟨rfl,rfl⟩
theorem doo_bare (R:Room) (o:Op) (sv sv':Value):(doo R.bare o sv').1.1=(doo R o sv).1.1∧(doo R.bare o sv').2=(doo R o sv).2∧(doo R.bare o sv').1.2.bare=(doo R o sv).1.2.bare:=by
 unfold doo
 rw [wrong_bare]
 by_cases h:wrong R o=0
 ·rw [if_neg (by simpa using h),if_neg (by simpa using h)]
  obtain ⟨h1,h2⟩:=turns_bare R o sv sv'
  exact ⟨h1,rfl,h2⟩
 ·rw [if_pos h,if_pos h]
  exact ⟨rfl,rfl,rfl⟩
end Go.Proofs.Rm
