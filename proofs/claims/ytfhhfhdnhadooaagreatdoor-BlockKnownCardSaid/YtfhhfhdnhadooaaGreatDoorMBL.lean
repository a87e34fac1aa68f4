import Derived.Test.YtfhhfhdnhadooaaGreatDoorMX
import Derived.Test.YtfhhfhdnhadooaaGreatDoorMV
import Derived.RangeFuncNested
import Derived.Sort.LoopGhostIn
import Derived.Test.YtfhhfhdnhadooaaGreatDoorMZ
import Derived.Test.YtfhhfhdnhadooaaGreatDoorML
set_option linter.unusedVariables false
set_option linter.unusedSimpArgs false
set_option maxHeartbeats 4000000

namespace Go.Proofs.YtfhhfhdnhadooaaGreatDoor
open Go Go.RowKit

namespace Bk
abbrev z32:List UInt8:=List.replicate 32 0
abbrev Dig:=List UInt8->List UInt8->List UInt8
def tTx:List UInt8:=[116,120]
def tSign:List UInt8:=[115,105,103,110]
def tNode:List UInt8:=[110,111,100,101]
def tBlock:List UInt8:=[98,108,111,99,107]
section
variable (TG:Dig)
def tagged (tag:List UInt8) (t:DTx):List UInt8:=if Tx.chk t=0 then TG tag (Tx.bareB t) else z32
def pairs:List (List UInt8)->List (List UInt8)
 | a::b::l=>TG tNode (a++b)::pairs l
 | l=>l
def rootN:Nat->List (List UInt8)->List UInt8
 | 0,_=>z32
 | _+1,[]=>z32
 | _+1,[a]=>a
 | n+1,l=>rootN n (pairs TG l)
def root (l:List (List UInt8)):List UInt8:=rootN TG (l.length+1) l
def rootTx (l:List DTx):List UInt8:=root TG (l.map (tagged TG tTx))
def twice:List (List UInt8)->Bool
 | []=>false
 | x::l=>l.any (· == x) || twice l
def firstErr:List DTx->Int
 | []=>0
 | t::l=>if Tx.chk t≠0 then Tx.chk t else firstErr l
def encH (h:DHeader):List UInt8:=h.prev++(h.root++Pk.int (Pk.toU h.nonce))
def idH (h:DHeader):List UInt8:=TG tBlock (encH h)
def chk (b:DBlock):Int :=
 if b.header.nonce<0∨1073741824<b.header.nonce then 1 else if 16<b.txs.length then 3 else if firstErr b.txs≠0 then firstErr b.txs
 else if twice (b.txs.map (tagged TG tTx))=true then 13 else if (rootTx TG b.txs == b.header.root)=false then 6 else 0
def encT (t:DTx):List UInt8:=Pk.blob (Tx.putB t)
def putB (b:DBlock):List UInt8:=encH b.header++encL encT b.txs
def put (b:DBlock):List UInt8 × Int:=if chk TG b≠0 then ([],chk TG b) else (putB b,0)
abbrev rI:Rdr Int:=rMap Pk.rInt (fun n=>(n:Int))
def rHdr:Rdr DHeader:=rMap (rPair (Pk.rBytes 32) (rPair (Pk.rBytes 32) rI)) (fun x=>⟨x.1,x.2.1,x.2.2⟩)
def rRaw:Rdr (DHeader × List (List UInt8)):=rPair rHdr (rList 16 (Pk.rB 16384))
def zero:DBlock:=⟨⟨z32,z32,0⟩,[]⟩
def getErr:List (List UInt8)->Int
 | []=>0
 | x::l=>if (Tx.get x).2≠0 then (Tx.get x).2 else getErr l
def fin (x:(DHeader × List (List UInt8)) × RS):DBlock × Int :=
 if Pk.rEnd x.2≠0 then (zero,Pk.rEnd x.2) else if getErr x.1.2≠0 then (zero,getErr x.1.2)
 else if chk TG ⟨x.1.1,x.1.2.map (fun y=>(Tx.get y).1)⟩≠0 then (zero,chk TG ⟨x.1.1,x.1.2.map (fun y=>(Tx.get y).1)⟩) else (⟨x.1.1,x.1.2.map (fun y=>(Tx.get y).1)⟩,0)
def get (b:List UInt8):DBlock × Int:=fin TG (rRaw (b,0))
end
def OkH (h:DHeader):Prop:=h.prev.length=32∧h.root.length=32∧I64 h.nonce
def Ok (b:DBlock):Prop:=OkH b.header∧∀t∈b.txs,Tx.Ok t
variable {TG:Dig}
theorem first_ok:∀{l:List DTx},firstErr l=0->∀t∈l,Tx.chk t=0
 | [],_,t,ht=>by cases ht
 | x::l,h,t,ht=>by
  unfold firstErr at h
  by_cases hx:Tx.chk x≠0
  ·rw [if_pos hx] at h;exact absurd h hx
  ·rw [if_neg hx] at h
   rcases List.mem_cons.1 ht with rfl|ht
   ·simpa using hx
   ·exact first_ok h t ht
theorem chk_of {b:DBlock} (h:chk TG b=0):(0<=b.header.nonce∧b.header.nonce<=1073741824)∧b.txs.length<=16∧(∀t∈b.txs,Tx.chk t=0)∧twice (b.txs.map (tagged TG tTx))=false∧rootTx TG b.txs=b.header.root:=by
 unfold chk at h
 split at h
 ·cases h
 ·split at h
  ·cases h
  ·split at h
   ·rename_i h1;exact absurd h h1
   ·split at h
    ·cases h
    ·split at h
     ·cases h
     ·rename_i h1 h2 h3 h4 h5
      exact ⟨by omega,by omega,first_ok (by simpa using h3),by simpa using h4,by simpa using h5⟩
theorem len_flat_le {α:Type} {f:α->List UInt8} {m:Nat}:∀(l:List α),(∀x∈l,(f x).length<=m)->(l.map f).flatten.length<=l.length*m
 | [],_=>by simp
 | x::l,h=>by
  have h1:=h x (.head _)
  have h2:=len_flat_le l (fun y hy=>h y (.tail _ hy))
  rw [List.map_cons,List.flatten_cons,List.length_append,List.length_cons,Nat.add_mul]
  omega
theorem len_put {t:DTx} (hc:Tx.chk t=0) (ht:Tx.Ok t):(Tx.putB t).length<=16384:=by
 obtain ⟨h1,h2,h3,h4,h5,h6,h7,h8⟩:=Tx.chk_of hc
 have i1:((t.ins.map Tx.encI).flatten).length<=t.ins.length*41:=len_flat_le _ (fun x hx=>by
  unfold Tx.encI Tx.encP
  have:=Pk.len_int (Pk.toU x.point.n)
  rw [List.length_append,(ht.1 x hx).1];omega)
 have i2:((t.outs.map Tx.encO).flatten).length<=t.outs.length*280:=len_flat_le _ (fun o ho=>by
  unfold Tx.encO Pk.blob
  have:=Pk.len_int (Pk.toU o.value)
  have:=Pk.len_int o.script.length
  have:=h7 o ho
  rw [List.length_append,List.length_append];omega)
 have i3:((t.ins.map Tx.encWI).flatten).length<=t.ins.length*1200:=len_flat_le _ (fun x hx=>by
  unfold Tx.encWI Tx.encW encL
  have:=Pk.len_int x.wit.length
  have hw:=h8 x hx
  have:((x.wit.map Pk.blob).flatten).length<=x.wit.length*73:=len_flat_le _ (fun b hb=>by
   unfold Pk.blob
   have:=Pk.len_int b.length
   have:=hw.2 b hb
   rw [List.length_append];omega)
  rw [List.length_append];omega)
 have n1:=Pk.len_int t.ins.length
 have n2:=Pk.len_int t.outs.length
 have n3:=Pk.len_int (Pk.toU t.lock)
 unfold Tx.putB Tx.bareB encL
 simp only [List.length_append]
 omega
theorem backs_raw:Backs rRaw (fun x=>encH x.1++encL Pk.blob x.2) :=
 Backs.pair (f:=rHdr) (enc:=encH) (enc':=encL Pk.blob)
  (Backs.map (enc:=fun x:List UInt8 × (List UInt8 × Int)=>x.1++(x.2.1++Pk.int (Pk.toU x.2.2)))
   (Backs.pair (enc:=fun x:List UInt8=>x) (enc':=fun x:List UInt8 × Int=>x.1++Pk.int (Pk.toU x.2)) backs_bytes (Backs.pair (g:=rI) (enc:=fun x:List UInt8=>x) (enc':=fun x:Int=>Pk.int (Pk.toU x)) backs_bytes backs_int)) _ (fun _=>rfl))
  (backs_list backs_blob)
theorem reads_raw {b:DBlock} (hc:chk TG b=0) (hb:Ok b):Reads rRaw (putB b) (b.header,b.txs.map Tx.putB):=by
 obtain ⟨h1,h2,h3,_⟩:=chk_of hc
 have hh:Reads rHdr (encH b.header) b.header:=Reads.map (Reads.pair (reads_bytes hb.1.1) (Reads.pair (reads_bytes hb.1.2.1) (reads_int (by omega) (by omega)))) _
 have e:encL encT b.txs=encL Pk.blob (b.txs.map Tx.putB):=by
  unfold encL
  rw [List.length_map,List.map_map];rfl
 have hl:Reads (rList 16 (Pk.rB 16384)) (encL encT b.txs) (b.txs.map Tx.putB):=by
  rw [e]
  refine reads_list (by rw [List.length_map];omega) (by rw [List.length_map];omega) (fun x hx=>?_) sane_blob.stuck
  obtain ⟨t,ht,rfl⟩:=List.mem_map.1 hx
  have:=len_put (h3 t ht) (hb.2 t ht)
  exact reads_blob (by omega) (by omega)
 exact Reads.pair hh hl
theorem get_all:∀{l:List DTx},(∀t∈l,Tx.chk t=0∧Tx.Ok t)->getErr (l.map Tx.putB)=0∧(l.map Tx.putB).map (fun y=>(Tx.get y).1)=l
 | [],_=>⟨rfl,rfl⟩
 | t::l,h=>by
  have ht:=h t (.head _)
  have ih:=get_all (l:=l) (fun x hx=>h x (.tail _ hx))
  have hg:=Tx.get_put ht.1 ht.2
  rw [List.map_cons]
  unfold getErr
  rw [List.map_cons,hg,if_neg (by simp),ih.1,ih.2]
  exact ⟨rfl,rfl⟩
theorem get_more {b:DBlock} (hc:chk TG b=0) (hb:Ok b) (q:List UInt8):get TG (putB b++q)=if q=[] then (b,0) else (zero,5):=by
 obtain ⟨h1,h2,h3,_⟩:=chk_of hc
 unfold get
 rw [(reads_raw hc hb).at]
 unfold fin
 dsimp only
 cases q with
 | cons c q=>rw [if_pos (by simp [Pk.rEnd])];simp [Pk.rEnd]
 | nil =>
  obtain ⟨g1,g2⟩:=get_all (l:=b.txs) (fun t ht=>⟨h3 t ht,hb.2 t ht⟩)
  rw [if_neg (by simp [Pk.rEnd]),g1,g2,if_neg (by simp)]
  have e:(⟨b.header,b.txs⟩:DBlock)=b:=rfl
  rw [e,hc,if_neg (by simp),if_pos rfl]
theorem get_cut {b:DBlock} {k:Nat} (hc:chk TG b=0) (hb:Ok b) (hk:k<(putB b).length):get TG ((putB b).take k)=(zero,4):=by
 have e:(rRaw ((putB b).take k,0)).2=([],4):=(reads_raw hc hb).1.2.1 k hk
 unfold get fin
 rw [e,if_pos (by decide)]
 rfl
theorem err_ok:∀{l:List (List UInt8)},getErr l=0->∀x∈l,(Tx.get x).2=0
 | [],_,x,hx=>by cases hx
 | y::l,h,x,hx=>by
  unfold getErr at h
  by_cases hy:(Tx.get y).2≠0
  ·rw [if_pos hy] at h;exact absurd h hy
  ·rw [if_neg hy] at h
   rcases List.mem_cons.1 hx with rfl|hx
   ·simpa using hy
   ·exact err_ok h x hx
theorem get_back {b:List UInt8} (h:(get TG b).2=0):chk TG (get TG b).1=0∧putB (get TG b).1=b:=by
 have hB:=backs_raw (b,0)
 unfold get at h ⊢
 generalize rRaw (b,0)=X at h hB ⊢
 unfold fin at h ⊢
 split at h
 ·rename_i h1;exact absurd h h1
 ·rename_i h1
  rw [if_neg h1]
  split at h
  ·rename_i h2;exact absurd h h2
  ·rename_i h2
   rw [if_neg h2]
   split at h
   ·rename_i h3;exact absurd h h3
   ·rename_i h3
    rw [if_neg h3]
    refine ⟨by simpa using h3,?_⟩
    have g:X.2.2=0∧X.2.1=[]:=by
     have h1':Pk.rEnd X.2=0:=by simpa using h1
     unfold Pk.rEnd at h1'
     split at h1'
     ·cases h1'
     ·exact ⟨h1',List.eq_nil_of_length_eq_zero (by omega)⟩
    have eb:b=encH X.1.1++encL Pk.blob X.1.2:=by
     have:=(hB g.1).2
     rw [g.2,List.append_nil] at this
     exact this
    have he:=err_ok (l:=X.1.2) (by simpa using h2)
    have e2:(X.1.2.map (fun y=>(Tx.get y).1)).map encT=X.1.2.map Pk.blob:=by
     rw [List.map_map]
     refine List.map_congr_left (fun x hx=>?_)
     show Pk.blob (Tx.putB (Tx.get x).1)=_
     rw [(Tx.get_back (he x hx)).2]
    unfold putB encL
    dsimp only
    rw [List.length_map,e2]
    exact eb.symm
theorem get_zero {b:List UInt8} (h:(get TG b).2≠0):(get TG b).1=zero:=by
 unfold get at h ⊢
 generalize rRaw (b,0)=X at h ⊢
 unfold fin at h ⊢
 split at h
 ·rename_i h1;rw [if_pos h1]
 ·rename_i h1
  rw [if_neg h1]
  split at h
  ·rename_i h2;rw [if_pos h2]
  ·rename_i h2
   rw [if_neg h2]
   split at h
   ·rename_i h3;rw [if_pos h3]
   ·exact absurd rfl h
theorem ok_zero:Ok zero:=⟨⟨by decide,by decide,(show I64 0 from ⟨by decide,by decide⟩)⟩,fun t ht=>absurd ht (by simp [zero])⟩
theorem ok_get {b:List UInt8}:Ok (get TG b).1:=by
 unfold get
 have hh:OkH (rRaw (b,0)).1.1:=⟨Pk.len_rBytes,Pk.len_rBytes,Tx.int_ok⟩
 generalize rRaw (b,0)=X at hh ⊢
 unfold fin
 split
 ·exact ok_zero
 ·split
  ·exact ok_zero
  ·split
   ·exact ok_zero
   ·refine ⟨hh,fun t ht=>?_⟩
    obtain ⟨x,_,rfl⟩:=List.mem_map.1 ht
    exact Tx.ok_get
end Bk
end Go.Proofs.YtfhhfhdnhadooaaGreatDoor

namespace Go.Proofs.YtfhhfhdnhadooaaGreatDoor
open Go Go.RowKit

namespace Bk
variable {TG:Dig}
theorem len_pairs:∀(l:List (List UInt8)),(pairs TG l).length=(l.length+1) / 2
 | []=>rfl
 | [_]=>by simp [pairs]
 | a::b::l=>by
  have ih:=len_pairs l
  rw [pairs,List.length_cons,ih,List.length_cons,List.length_cons]
  omega
theorem rootN_fuel:∀(n m:Nat) (l:List (List UInt8)),l.length<n->l.length<m->rootN TG n l=rootN TG m l
 | 0,_,_,h,_=>by omega
 | _+1,0,_,_,h=>by omega
 | _+1,_+1,[],_,_=>rfl
 | _+1,_+1,[_],_,_=>rfl
 | n+1,m+1,a::b::l,h,k=>by
  have hl:=len_pairs (TG:=TG) (a::b::l)
  simp only [List.length_cons] at h k hl
  show rootN TG n (pairs TG (a::b::l))=rootN TG m (pairs TG (a::b::l))
  exact rootN_fuel n m _ (by omega) (by omega)
theorem root_two {l:List (List UInt8)} (h:2<=l.length):root TG l=root TG (pairs TG l):=by
 match l,h with
 | a::b::l,_ =>
  have hl:=len_pairs (TG:=TG) (a::b::l)
  simp only [List.length_cons] at hl
  show rootN TG (l.length+1+1) (pairs TG (a::b::l))=rootN TG _ (pairs TG (a::b::l))
  exact rootN_fuel _ _ _ (by omega) (by omega)
theorem pairs_get:∀(l:List (List UInt8)) (k:Nat),2*k<l.length->(pairs TG l)[k]?=some (if 2*k+1<l.length then TG tNode (l.getD (2*k) []++l.getD (2*k+1) []) else l.getD (2*k) [])
 | [],k,h=>by simp at h
 | [a],k,h=>by
  obtain rfl:k=0:=by simp at h;omega
  rfl
 | a::b::l,0,h=>by simp [pairs]
 | a::b::l,k+1,h=>by
  have ih:=pairs_get l k (by simp only [List.length_cons] at h;omega)
  rw [pairs,List.getElem?_cons_succ,ih]
  congr 1
  have e1:(a::b::l).getD (2*(k+1)) []=l.getD (2*k) []:=by rw [show 2*(k+1)=2*k+1+1 by omega];simp [List.getD]
  have e2:(a::b::l).getD (2*(k+1)+1) []=l.getD (2*k+1) []:=by rw [show 2*(k+1)+1=2*k+1+1+1 by omega];simp [List.getD]
  rw [e1,e2]
  simp only [List.length_cons]
  by_cases h1:2*k+1<l.length
  ·rw [if_pos h1,if_pos (by omega)]
  ·rw [if_neg h1,if_neg (by omega)]
end Bk
end Go.Proofs.YtfhhfhdnhadooaaGreatDoor

namespace Go.Proofs.YtfhhfhdnhadooaaGreatDoor
open Go Go.RowKit

deriving instance DecidableEq for DHeader
deriving instance DecidableEq for DBlock
def hdrC (h:DHeader):List Value:=h.prev.map u8v++(h.root.map u8v++[.int .i64 h.nonce])
def bC (h:DHeader) (A:Option Addr) (m c:Nat):List Value:=hdrC h++[.slice A m c]
section
variable {W:World} {S:Nat->Prop} {cs:List Value} {A:Option Addr} {m c:Nat} {x:DHeader} {b:DBlock}
theorem hdr_rep (h:Bk.OkH x):RHeader W S (hdrC x) x:=⟨_,_,_,rfl,⟨rfl,h.1⟩,⟨rfl,h.2.1⟩,rfl,h.2.2⟩
theorem len_hdr (h:Bk.OkH x):(hdrC x).length=65:=by unfold hdrC;simp [h.1,h.2.1]
theorem lB (h:Bk.OkH x):(bC x A m c).length=66:=by unfold bC;rw [List.length_append,len_hdr h];rfl
theorem hdr_one:(hdrC x).all (·.oneCell')=true:=by unfold hdrC;simp [List.all_append,all_u8L,Value.oneCell']
theorem blk_one:(bC x A m c).all (·.oneCell')=true:=by unfold bC;rw [List.all_append,hdr_one];rfl
theorem sub_h_prev (h:Bk.OkH x):sub (hdrC x) 0 32=x.prev.map u8v:=sub_Header_0 (by rw [List.length_map];exact h.1)
theorem sub_h_root (h:Bk.OkH x):sub (hdrC x) 32 32=x.root.map u8v:=sub_Header_1 (by rw [List.length_map];exact h.1) (by rw [List.length_map];exact h.2.1)
theorem sub_h_nonce (h:Bk.OkH x):sub (hdrC x) 64 1=[.int .i64 x.nonce]:=sub_Header_2 (by rw [List.length_map];exact h.1) (by rw [List.length_map];exact h.2.1) rfl
theorem sub_b_hdr (h:Bk.OkH x):sub (bC x A m c) 0 65=hdrC x:=sub_Block_0 (len_hdr h)
theorem sub_b_txs (h:Bk.OkH x):sub (bC x A m c) 65 1=[.slice A m c]:=sub_Block_1 (len_hdr h) rfl
theorem sub_b_prev (h:Bk.OkH x):sub (bC x A m c) 0 32=x.prev.map u8v:=by
 have e:=sub_sub (c:=bC x A m c) (a:=0) (m:=65) (b:=0) (k:=32) (by omega)
 rw [sub_b_hdr h,sub_h_prev h] at e
 exact e.symm
theorem sub_b_root (h:Bk.OkH x):sub (bC x A m c) 32 32=x.root.map u8v:=by
 have e:=sub_sub (c:=bC x A m c) (a:=0) (m:=65) (b:=32) (k:=32) (by omega)
 rw [sub_b_hdr h,sub_h_root h] at e
 exact e.symm
theorem sub_b_nonce (h:Bk.OkH x):sub (bC x A m c) 64 1=[.int .i64 x.nonce]:=by
 have e:=sub_sub (c:=bC x A m c) (a:=0) (m:=65) (b:=64) (k:=1) (by omega)
 rw [sub_b_hdr h,sub_h_nonce h] at e
 exact e.symm
theorem rl_txs {l:List DTx} {v:Value} (h:RL 3 RTx W S [v] l):∀t∈l,Tx.Ok t:=fun t ht=>by
 obtain ⟨_,_,xs,_,_,_,_,e⟩:=h
 obtain ⟨i,hi⟩:=List.getElem?_of_mem ht
 exact tx_ok (e i t hi)
end
def zHd:DHeader:=⟨List.replicate 32 0,List.replicate 32 0,0⟩
theorem zHd_ok:Bk.OkH zHd:=⟨List.length_replicate,List.length_replicate,by unfold zHd I64;constructor <;> decide⟩
end Go.Proofs.YtfhhfhdnhadooaaGreatDoor

namespace Go.Proofs.YtfhhfhdnhadooaaGreatDoor
open Go Go.RowKit

class WideF (F:Fence):Prop where
 fn:∀f,F.fn f
 dep:F.depth=none
 calls:∀{n:Nat} {P:Program} {f:FuncId} {args:Array Value} {w:World} {R:Ending->World->Prop},Calls P f args w R->CallsIn F n P f args w R
 rows:∀{n:Nat} {P:Program} {row:String} {args:Array Value} {w:World} {R:Value->World->Prop},Rows P row args w R->RowsIn F n P row args w R
instance :WideF Fence.wide:=⟨fun _=>trivial,rfl,fun h=>callsIn_wide.2 h,fun h c cs _=>let ⟨v,w',r,s⟩:=h c cs;⟨v,w',r,stepsIn_wide.2 s⟩⟩
theorem calls_round {l n:Nat} {P:Program} {f:FuncId} {args:Array Value} {w:World} {R:Ending->World->Prop} (h:CallsIn Fence.wide n P f args w R):CallsIn (Fence.wide.inRound l) n P f args w R:=h
theorem rows_round {l n:Nat} {P:Program} {row:String} {args:Array Value} {w:World} {R:Value->World->Prop} (h:RowsIn Fence.wide n P row args w R):RowsIn (Fence.wide.inRound l) n P row args w R:=h
instance {l:Nat}:WideF (Fence.wide.inRound l):=⟨fun _=>trivial,rfl,fun h=>calls_round (WideF.calls h),fun h=>rows_round (WideF.rows h)⟩
def noDefer (ops:List Oper):Bool:=ops.all fun o=>match o.op with
 | .defer _=>false
 | _=>true
theorem noDefer_of {ops:List Oper} {o:Oper} (h:noDefer ops=true) (ho:o∈ops):∀c,o.op≠.defer c:=fun c e=>by
 have:=List.all_eq_true.1 h o ho
 rw [e] at this
 cases this

section
variable {P:Program} {ops:Array Oper} {Q:Exit->Act->World->Prop} {rest:List Oper} {o:Oper} {n m l:Nat} {ρ:Nat->Value} {ds:List Deferred} {W W' w w0:World} {d:Tmp} {v:Value} {F:Fence} {T:Nat->Prop} {L:List Fact} {cs:List Code} {a:Act}
theorem wp_in [hw:WideF F] {K:Act->World->Prop} (hnd:∀c,o.op≠.defer c) (h:o.wp P a w K Q):o.wpIn F n P a w K Q:=by
 refine ⟨fun f _=>hw.fn f,?_⟩
 rw [Oper.semAt_eq _ _ _ hnd]
 unfold Oper.wp at h
 revert h
 generalize (execOp a.eval o).run P w=r
 intro h
 have hd:F.depth.isSome=true->1<=n:=fun e=>by rw [hw.dep] at e;cases e
 cases r with
 | ok x w' =>
  cases x with
  | value v=>exact h
  | skip=>exact h
  | defer d=>exact h
  | enter f args=>exact ⟨hd,hw.calls h⟩
  | row r args=>exact ⟨hd,hw.rows h⟩
  | _=>exact h.elim
 | halt e w' =>
  cases e with
  | panic v=>exact h
  | _=>exact h.elim
theorem r_eff [WideF F] (_hF:∀f,F.fn f) (hnd:∀c,o.op≠.defer c) (h:Step P ops Q o a W (wpListIn F m P ops Q rest)):wpListIn F m P ops Q (o::rest) a W:=by
 unfold wpListIn
 rw [if_pos h.1]
 exact wp_in hnd h.2
theorem ry_nil {next:Act->World->Prop} (h:next a W):wpListIn F m P ops (Exit.then next Q) [] a W:=wpListIn_nil h
theorem ops_in [hw':WideF F] (hL:¬LetsOut Q) (hnd:noDefer ops.toList=true):∀(il:List Nat) (a:Act) (w:World),wpOps P ops Q il a w->wpOpsIn F n P ops Q il a w
 | [],_,_,h=>h
 | i::rest,a,w,h=>by
  unfold wpOps at h
  unfold wpOpsIn
  cases hi:ops[i]? with
  | none=>rw [hi] at h;exact ops_in hL hnd rest a w h
  | some o =>
   rw [hi] at h
   simp only at h ⊢
   split at h
   ·rename_i hwt
    rw [if_pos hwt]
    rcases h with h|h
    ·have hm:o∈ops.toList:=by
      have:=List.mem_of_getElem? (l:=ops.toList) (i:=i) (by simpa using hi)
      exact this
     exact wp_in (noDefer_of hnd hm) (Oper.wp_mono (fun a' w' h'=>ops_in hL hnd rest a' w' h') h)
    ·exact absurd h.2 hL
   ·rename_i hwt
    rw [if_neg hwt]
    exact ⟨fun f _=>hw'.fn f,ops_in hL hnd rest _ w h⟩

def wpY (l:Nat) (P:Program) (Q:Exit->Act->World->Prop):List Code->Act->World->Prop
 | [],a,w=>Q .normal a w
 | c::cs,a,w=>c.wpIn (Fence.wide.inRound l) 1 P (Exit.then (wpY l P Q cs) Q) a w
theorem y_one {c:Code} (h:wpY l P Q [c] a w):c.wpIn (Fence.wide.inRound l) 1 P Q a w:=wpIn_mono h (fun e a w q=>by cases e <;> exact q)
theorem y_seq {x y:Code} (h:wpY l P Q (x::y::cs) a w):wpY l P Q (.seq x y::cs) a w :=
 wpIn_seq (wpIn_mono h (fun e a w q=>by cases e <;> exact q))
theorem y_skip (h:wpY l P Q cs a w):wpY l P Q (.skip::cs) a w:=wpIn_skip h
theorem y_ret (h:Q .ret a w):wpY l P Q (.ret::cs) a w:=wpIn_ret h
theorem y_block {id:Nat} {c:Code} (h:wpY l P (Exit.inBlock id (Exit.then (wpY l P Q cs) Q)) [c] a w):wpY l P Q (.block id c::cs) a w :=
 wpIn_block (wpIn_mono h (fun e a w q=>by cases e <;> exact q))
theorem y_region {id:Nat} {ol:List Oper} (h:wpListIn (Fence.wide.inRound l) 1 P ol.toArray (Exit.then (wpY l P Q cs) Q) ol a w):wpY l P Q (.region id ol.toArray false::cs) a w:=wpIn_region_lit h
theorem y_cond {c:Operand} {x y:Code} {b:Bool} (hc:ev n ρ c=.bool b) (ht:b=true->wpY l P Q (x::cs) (st n ρ ds) w) (hf:b=false->wpY l P Q (y::cs) (st n ρ ds) w) :
  wpY l P Q (.cond c x y::cs) (st n ρ ds) w:=by
 rw [←st_eval (ds:=ds)] at hc
 exact wpIn_cond_split hc ht hf
theorem y_nil (h:Q .normal a w):wpY l P Q [] a w:=h
theorem yb_end {id:Nat} (h:wpY l P Q cs a w):Exit.inBlock id (Exit.then (wpY l P Q cs) Q) .normal a w:=h
theorem y_draw {id:Nat} {ol:List Oper} (order:List (Nat × Bool)) (Lc:List Fact) (hm:P.follows .mixedOrders=true) (hB:(Region.noSelect ol.toArray && (order.length == ol.length) && canB .any ol.toArray order (Array.replicate ol.toArray.size false))=true) (hnd:noDefer ol=true) (hL:¬LetsOut Q) (H:St T w0 w L) (hs:Lc.Sublist L)
  (k:∀W,St T w0 W L->wpC P ol.toArray (fun W=>St T w0 W Lc) (NoPan (Exit.then (wpY l P Q cs) Q)) order (st n ρ ds) W):wpY l P Q (.region id ol.toArray true::cs) (st n ρ ds) w:=by
 simp only [Bool.and_eq_true,beq_iff_eq] at hB
 obtain ⟨⟨h1,h2⟩,h3⟩:=hB
 have hN:(Code.region id ol.toArray true).wpIn (Fence.wide.inRound l) 1 P (NoPan (Exit.then (wpY l P Q cs) Q)) (st n ρ ds) w:=by
  refine wpIn_region_draw fun t=>ops_in (fun h=>?_) (by simpa using hnd) _ _ _ ?_
  ·obtain ⟨a,w,h⟩:=h
   exact hL ⟨a,w,h.2⟩
  ·simp only [Region.schedule,hm,Bool.true_or,if_true]
   refine wpAny_sound ol.toArray.size t _ _ _ (wpAny_of_held (S:=fun W=>St T w0 W Lc) _ _ _ _ ?_)
   have:=wpC_sound (P:=P) (md:=.any) (S:=fun W=>St T w0 W Lc) (Q:=NoPan (Exit.then (wpY l P Q cs) Q)) h1 (fun c a d v w h=>absurd rfl (h.1 c)) order (Array.replicate ol.toArray.size false) (st n ρ ds) w.drew h3 (H.drew.sub hs) (k _ H.drew)
   rw [h2] at this
   simpa using this
 exact wpIn_mono hN (fun _ _ _ h=>h.2)
theorem y_drawT {id:Nat} {ol:List Oper} (order:Tr) (Lc:List Fact) (hm:P.follows .mixedOrders=true) (hB:(Region.noSelect ol.toArray && (order.len == ol.length) && canT .any ol.toArray order (Array.replicate ol.toArray.size false))=true) (hnd:noDefer ol=true) (hL:¬LetsOut Q) (H:St T w0 w L) (hs:Lc.Sublist L)
  (k:∀W,St T w0 W L->wpT P ol.toArray (NoPan (Exit.then (wpY l P Q cs) Q)) order (fun W=>St T w0 W Lc) (st n ρ ds) W):wpY l P Q (.region id ol.toArray true::cs) (st n ρ ds) w:=by
 simp only [Bool.and_eq_true,beq_iff_eq] at hB
 obtain ⟨⟨h1,h2⟩,h3⟩:=hB
 have hN:(Code.region id ol.toArray true).wpIn (Fence.wide.inRound l) 1 P (NoPan (Exit.then (wpY l P Q cs) Q)) (st n ρ ds) w:=by
  refine wpIn_region_draw fun t=>ops_in (fun h=>?_) (by simpa using hnd) _ _ _ ?_
  ·obtain ⟨a,w,h⟩:=h
   exact hL ⟨a,w,h.2⟩
  ·simp only [Region.schedule,hm,Bool.true_or,if_true]
   refine wpAny_sound ol.toArray.size t _ _ _ (wpAny_of_held (S:=fun W=>St T w0 W Lc) _ _ _ _ ?_)
   have:=wpT_sound (P:=P) (md:=.any) (Q:=NoPan (Exit.then (wpY l P Q cs) Q)) h1 (fun c a d v w h=>absurd rfl (h.1 c)) order (fun W=>St T w0 W Lc) (Array.replicate ol.toArray.size false) (st n ρ ds) w.drew h3 (H.drew.sub hs) (k _ H.drew)
   rw [h2] at this
   simpa using this
 exact wpIn_mono hN (fun _ _ _ h=>h.2)
theorem y_cut {c:Code} (lo:Nat) (M:List Nat) (J:List (Nat × Value)->World->Prop)
  (h:wpY l P (Exit.then (fun a w=>∃sl ρ',a=st n ρ' ds∧Eqo lo M ρ ρ'∧slotsOk ρ' sl∧J sl w) Q) [c] (st n ρ ds) w)
  (rest:∀sl ρv w,J sl w->wpY l P Q cs (st n (updl (ovr lo M ρ ρv) sl) ds) w):wpY l P Q (c::cs) (st n ρ ds) w:=by
 refine wpIn_mono (y_one h) (fun e a w q=>?_)
 cases e with
 | normal =>
  obtain ⟨sl,ρ',rfl,hE,hs,hJ⟩:=q
  have:=rest sl ρ' w hJ
  rwa [←hE.frame sl hs.mem] at this
 | _=>exact q
def RoundQ (A B:World->Prop):Exit->Act->World->Prop
 | .normal,_,W=>A W
 | .ret,_,W=>B W
 | _,_,_=>False
def RoundQ' (_n:Nat) (A:Act->World->Prop):Exit->Act->World->Prop
 | .normal,a,W=>A a W
 | _,_,_=>False
theorem round_n {A B:World->Prop} (h:A W):RoundQ A B .normal a W:=h
theorem round_r {A B:World->Prop} (h:B W):RoundQ A B .ret a W:=h
theorem round_a {A:Act->World->Prop} (h:A a W):RoundQ' 0 A .normal a W:=h
theorem ra_one {p:Tmp} {v:Value}:({ tmps:=((#[p]:Array Tmp).zip #[v]).foldl (fun t (p,v)=>t.setIfInBounds p v) (st n ρ ds).tmps,defers:=[] }:Act)=st n (upd ρ p v) []:=by
 have h1:=st_put (n:=n) (ρ:=ρ) (ds:=[]) p v
 simp only [Act.put] at h1
 refine Eq.trans ?_ h1
 simp [st]
theorem q_M0 {fn:Func} {R:Ending->World->Prop} (h:bodyPost P fn R .ret (st n ρ []) W):bodyPostM Fence.wide 3 P fn R .ret (st n ρ []) W:=h.2
theorem q_M1 {fn:Func} {R:Ending->World->Prop} {D:Nat} (H:St T w0 W (Fact.obj D (.deferred (some []))::L)) (h:∀W',St T w0 W' L->bodyPost P fn R .ret (st n ρ []) W'):bodyPostM Fence.wide 3 P fn R .ret (st n ρ [{ target:=.collected D,args:=#[] }]) W :=
 ⟨by simp,.inl ⟨D,_,rfl,(take_obj (P:=P) H).1,(h _ (take_obj (P:=P) H).2).2⟩⟩
end

def isC (W:World) (g:Nat):Prop:=∃o,W.heap[g]?=some o∧o.isCells=true
theorem isC.lt {W:World} {g:Nat} (h:isC W g):g<W.heap.size:=by
 obtain ⟨o,h,_⟩:=h
 exact (Array.getElem?_eq_some_iff.1 h).1
theorem isC.keep {W W':World} {g:Nat} (h:isC W g) (k:W'.heap[g]?=W.heap[g]?):isC W' g:=by
 obtain ⟨o,h1,h2⟩:=h
 exact ⟨o,k.trans h1,h2⟩
theorem isC_blk {W:World} {g:Nat} {c:List Value} {t:TypeId} (h:W.heap[g]?=some (.cells c.toArray t (0,0))):isC W g:=⟨_,h,rfl⟩
structure Snap (B:Nat) (Sn:World->(Nat->Prop)->Prop):Prop where
 fn:∀W u u',Sn W u->Sn W u'->∀g,u g->u' g
 loc:∀W W' u,Sn W u->(∀g,g<B∨u g->W'.heap[g]?=W.heap[g]?)->Sn W' u
 cel:∀W u,Sn W u->∀g,u g->isC W g
def KeepB (n0:Nat) (K0:Nat->Prop) (W W':World):Prop:=Below n0 W W'∧∀g,K0 g->W'.heap[g]?=W.heap[g]?
theorem KeepB.trans {n0:Nat} {K0:Nat->Prop} {A B C:World} (h:KeepB n0 K0 A B) (k:KeepB n0 K0 B C):KeepB n0 K0 A C:=⟨h.1.trans k.1,fun g hg=>(k.2 g hg).trans (h.2 g hg)⟩
theorem KeepB.refl {n0:Nat} {K0:Nat->Prop} {A:World}:KeepB n0 K0 A A:=⟨Below.refl _ _,fun _ _=>rfl⟩
def Sn0:World->(Nat->Prop)->Prop:=fun _ u=>∀g,¬u g
theorem snap0 {B:Nat}:Snap B Sn0:=⟨fun _ _ _ h _ g hg=>absurd hg (h g),fun _ _ _ h _=>h,fun _ _ h g hg=>absurd hg (h g)⟩
def SnRow (g2:Nat) (t e s:Nat):World->(Nat->Prop)->Prop:=fun W u=>∃A m c xs,W.heap[g2]?=some (.cells [.slice A m c].toArray t (0,0))∧W.ownsRow 0 e s (.slice A m c) m xs∧∀g,u g↔(Value.slice A m c).ownBlock=some g
theorem own_isC {W:World} {e s m:Nat} {v:Value} {xs:List Value} (h:W.ownsRow 0 e s v m xs) {g:Nat} (hg:v.ownBlock=some g):isC W g:=by
 rcases h.2 with ⟨rfl,_⟩|⟨b,cap,cur,rfl,_,hb,_⟩
 ·cases hg
 ·cases hg
  exact ⟨_,hb,rfl⟩
theorem snapRow {B g2 t e s:Nat} (hB:g2<B):Snap B (SnRow g2 t e s):=by
 refine ⟨fun W u u' h h' g hg=>?_,fun W W' u h k=>?_,fun W u h g hg=>?_⟩
 ·obtain ⟨A,m,c,xs,h1,h2,h3⟩:=h
  obtain ⟨A',m',c',xs',h1',h2',h3'⟩:=h'
  rw [h1] at h1'
  simp only [Option.some.injEq,Obj.cells.injEq,List.toArray_inj,List.cons.injEq,Value.slice.injEq,and_true] at h1'
  obtain ⟨rfl,rfl,rfl⟩:=h1'
  exact (h3' g).2 ((h3 g).1 hg)
 ·obtain ⟨A,m,c,xs,h1,h2,h3⟩:=h
  exact ⟨A,m,c,xs,(k g2 (.inl hB)).trans h1,ownsRow_keep h2 (fun g hg=>k g (.inr ((h3 g).2 hg))),h3⟩
 ·obtain ⟨A,m,c,xs,h1,h2,h3⟩:=h
  exact own_isC h2 ((h3 g).1 hg)
theorem s1_row {w0 W:World} {B g2 t e s m c:Nat} {A:Option Addr} {xs:List Value} (hB:g2<B) (H:St nT w0 W [Fact.blk g2 [.slice A m c] t,Fact.row e s (.slice A m c) m xs]):∃u,SnRow g2 t e s W u∧∀f∈[Fact.blk g2 [.slice A m c] t,Fact.row e s (.slice A m c) m xs],∀g,f.fp g->g<B∨u g:=by
 refine ⟨fun g=>(Value.slice A m c).ownBlock=some g,⟨A,m,c,xs,H.holds _ (.head _),H.holds _ (.tail _ (.head _)),fun _=>Iff.rfl⟩,fun f hf g hg=>?_⟩
 rcases List.mem_cons.1 hf with rfl|hf
 ·have:g=g2:=hg
  omega
 ·obtain rfl:=List.mem_singleton.1 hf
  exact .inr hg
theorem s1_const {W:World} {B:Nat} {L:List Fact} (h:∀f∈L,∀g,f.fp g->g<B):∃u,Sn0 W u∧∀f∈L,∀g,f.fp g->g<B∨u g:=⟨fun _=>False,fun _ h=>h,fun f hf g hg=>.inl (h f hf g hg)⟩
section
variable {P:Program} {n:Nat} {ρ:Nat->Value} {W:World} {o:Oper} {t e:TypeId} {x y z z':Operand} {A:Option Addr} {m c s l h mx:Nat} {a b b':Int} {k k' k'':IntKind}
theorem d_cut3 (ho:o.op=.slice t x (some y) (some z) (some z')) (hy:ev n ρ y=.int k a) (hz:ev n ρ z=.int k' b) (hz':ev n ρ z'=.int k'' b') (ha:a=(l:Int)) (hb:b=(h:Int)) (hb':b'=(mx:Int)) (hl:l<=h) (hh:h<=mx) (hm:mx<=c) (hx:ev n ρ x=.slice A m c) (hu:P.underlying t=some (.slice e)) (hs:(P.info? e).map (·.size)=some s):Runs P n ρ o W (.slice (if mx=l then A else A.map (·.add (l*s))) (h - l) (mx - l)) W:=by
 subst ha hb hb'
 have he:=elem_of hu
 have e1:P.elem t=e:=by rw [he] at hu;cases hu;rfl
 have:=run_slice_lhm (P:=P) W t A m c he k k' k'' (l:Int) (h:Int) (mx:Int) (by omega) (by omega) (by omega) (by omega)
 unfold Runs execOp
 simp only [ho,hx,hy,hz,hz',Option.map_some,run_sliceAt_slice W t _ _ _ _ he,this,e1,Sem.run_bind,run_size hs,Result.andThen_ok,Sem.run_pure,Int.toNat_natCast,sliced]
end
section
variable {w0 W W':World} {L:List Fact} {B:Nat}
theorem St.turned {row:Option Nat} (H:St nT w0 W L) (hg:W.grownBy W' row) (hr:∀r,row=some r->B<=r∧∃o:Obj,W.heap[r]?=some o∧o.isCells=false) (hB:w0.heap.size<=B) (hc:∀f∈L,∀g,f.fp g->g<B∨isC W g):St nT w0 W' L:=by
 have hk:∀g,g<W.heap.size->g<B∨isC W g->W'.heap[g]?=W.heap[g]?:=fun g h1 h2=>hg.block g h1 (fun e=>by
  obtain ⟨h3,o,h4,h5⟩:=hr g e.symm
  rcases h2 with h2|⟨o',h6,h7⟩
  ·omega
  ·rw [h4] at h6;cases h6;rw [h5] at h7;cases h7)
 refine ⟨H.fr.trans (T':=fun k=>B<=k) ⟨hg.os,hg.tape,hg.output,hg.size,fun j hj hn=>hk j hj (.inl (by omega))⟩ (fun g h1 h2=>absurd h2 (by have:=H.fr.size;omega)),fun f hf=>f.st W W' (H.holds f hf) (fun g hg'=>hk g (H.own f hf g hg').2 (hc f hf g hg')),fun f hf g hg'=>⟨(H.own f hf g hg').1,Nat.lt_of_lt_of_le (H.own f hf g hg').2 hg.size⟩,H.apart⟩
theorem below_grown {W W':World} (h:Below W.heap.size W W'):W.grownBy W' none:=⟨h.os,h.tape,h.output,h.size,fun k hk _=>h.block k hk⟩
theorem St.alone (H:St nT w0 W L):St (fun g=>∃f∈L,f.fp g) W W L:=⟨Fr.refl,H.holds,fun f hf g hg=>⟨.inl ⟨f,hf,hg⟩,(H.own f hf g hg).2⟩,H.apart⟩
end
theorem k_rangeB {P:Program} {Q:Exit->Act->World->Prop} {cs:List Code} {n:Nat} {ρ:Nat->Value} {ds:List Deferred} {w0 W:World} {α β β':Type} {g:Operand} {ps:Array Tmp} {assign body:Code} {gf:Nat} {fn:Func} {c:Code} {lb:Array Value} {encs:α->Array Value} {K0:Nat->Prop} {S Sp:List α->Prop} {N:Nat}
  (FKs:List Fact) (Lx:List α->β->List Fact) (C:List α->β->Prop) (Lxx:List α->β'->List Fact) (Cx:List α->β'->Prop) (Sn:World->(Nat->Prop)->Prop) (e:α->List Value) (tb:TypeId) (ra:(Nat->Value)->α->(Nat->Value)) (rb:(Nat->Value)->α->Nat->(Nat->Value)) (z0:β)
  (hg : ev n ρ g = .func (.func gf) #[] lb) (hf : P.funcs[gf]? = some fn) (hname : (fn.name == "runtime.NumGoroutine") = false) (hb : fn.body = some c) (hseq : SeqStopsK Fence.wide 2 P gf lb encs (KeepB w0.heap.size K0) S Sp N W) (hps : ∀ x, (encs x).size = ps.size)
  (hra:∀x,({ tmps:=(ps.zip (encs x)).foldl (fun t (p,v)=>t.setIfInBounds p v) (st n ρ ds).tmps,defers:=[] }:Act)=st n (ra ρ x) [])
  (H:St nT w0 W (FKs++Lx [] z0)) (hC0:C [] z0) (hK:∀g,K0 g->∃f∈FKs,f.fp g)
  (hSn:Snap W.heap.size Sn) (hs1:∀pre z W',C pre z->St nT w0 W' (Lx pre z)->∃u,Sn W' u∧∀f∈Lx pre z,∀g,f.fp g->g<W.heap.size∨u g)
  (hsx:∀pre z W',Cx pre z->St nT w0 W' (Lxx pre z)->∀f∈Lxx pre z,∀g,f.fp g->g<W.heap.size∨isC W' g)
  (hassign:∀(l:Nat) (x:α) (W1:World),wpY l P (RoundQ' 0 (fun a' W'=>∃g,a'=st n (rb ρ x g) []∧Below W1.heap.size W1 W'∧W1.heap.size<=g∧W'.heap[g]?=some (.cells (e x).toArray tb (0,0)))) [assign] (st n (ra ρ x) []) W1)
  (hbody:∀(l:Nat) (pre:List α) (x:α) (z:β) (gx:Nat) (W1:World) (T1:Nat->Prop),C pre z->pre.length<N->(∀W2,Fr T1 W1 W2->Below w0.heap.size w0 W2)->St T1 W1 W1 (Fact.blk gx (e x) tb::Lx pre z) ->
   wpY l P (RoundQ (fun W2=>∃z',C (pre++[x]) z'∧St T1 W1 W2 (Lx (pre++[x]) z')) (fun W2=>∃z',Cx (pre++[x]) z'∧St T1 W1 W2 (Lxx (pre++[x]) z'))) [body] (st n (rb ρ x gx) []) W1)
  (k:∀D xs z W',S xs->C xs z->St nT w0 W' (Fact.obj D (.deferred (some []))::Lx xs z)->wpK P Q cs (st n ρ ({ target:=.collected D,args:=#[] }::ds)) W')
  (kx:∀D pre z W',Sp pre->Cx pre z->St nT w0 W' (Fact.obj D (.deferred (some []))::Lxx pre z)->Q .ret (st n ρ ({ target:=.collected D,args:=#[] }::ds)) W'):wpK P Q (.rangeFunc g ps assign body::cs) (st n ρ ds) W:=by
 have hB:w0.heap.size<=W.heap.size:=H.fr.size
 have hFB:∀f∈FKs,∀g,f.fp g->g<W.heap.size:=fun f hf g hg=>(H.own f (List.mem_append_left _ hf) g hg).2
 have toL:∀{W' pre z},St nT w0 W' (FKs++Lx pre z)->St nT w0 W' (Lx pre z):=fun h=>h.sub (List.sublist_append_right _ _)
 refine (wpIn_wide (n:=3)).1 ?_
 refine wpIn_rangeFunc_ownH (gf:=gf) (lb:=lb) (F:=Fence.wide) (n:=3) (S:=S) (Sp:=Sp) (N:=N) (w0:=W) rfl (by omega) (by rw [st_eval];exact hg) trivial (enters_of hf hname hb) hseq
  (fun h1 h2=>KeepB.trans h1 h2) ?hKb (Below.refl _ _) hps
  (fun pre W'=>W.heap.size<=W'.heap.size∧∃z,C pre z∧St nT w0 W' (FKs++Lx pre z)) (fun cx pre W'=>cx=.ret∧∃z,Cx pre z∧St nT w0 W' (Lxx pre z)) ?hI ?hIx ⟨Nat.le_refl _,z0,hC0,H⟩
  (fun x a' W'=>∃g u,a'=st n (rb ρ x g) []∧W.heap.size<=g∧W'.heap[g]?=some (.cells (e x).toArray tb (0,0))∧Sn W' u∧¬u g) ?hAx ?ha ?hbd ?hd ?hst
 case hKb =>
  intro A l o o' hl _ _ _
  have hg:=grownBy_putObj' A l o'
  exact ⟨⟨hg.os,hg.tape,hg.output,hg.size,fun g hg=>World.putObj_heap_other (by omega)⟩,fun g hg=>by
   obtain ⟨f,h1,h2⟩:=hK g hg
   exact World.putObj_heap_other (by have:=hFB f h1 g h2;omega)⟩
 case hI =>
  rintro pre A A' row ⟨h0,z,hC,hs⟩ hgr hrow
  refine ⟨Nat.le_trans h0 hgr.size,z,hC,hs.turned hgr hrow hB (fun f hf g hg=>?_)⟩
  rcases List.mem_append.1 hf with hf|hf
  ·exact .inl (hFB f hf g hg)
  ·obtain ⟨u,h1,h2⟩:=hs1 pre z A hC (toL hs)
   rcases h2 f hf g hg with h|h
   ·exact .inl h
   ·exact .inr (hSn.cel _ _ h1 g h)
 case hIx =>
  rintro cx pre A A' row ⟨h0,z,hC,hs⟩ hgr hrow
  exact ⟨h0,z,hC,hs.turned hgr hrow hB (hsx pre z A hC hs)⟩
 case hAx =>
  rintro x a' _ A A' row ⟨g,u,h1,h2,h3,h4,h5⟩ hgr hrow
  have hlt:g<A.heap.size:=(isC_blk h3).lt
  have hk:∀j,j<W.heap.size∨isC A j->A'.heap[j]?=A.heap[j]?:=fun j hj=>hgr.block j (by rcases hj with hj|hj;omega;exact hj.lt) (fun e=>by
   obtain ⟨q1,o,q2,q3⟩:=hrow j e.symm
   rcases hj with hj|⟨o',q4,q5⟩
   ·omega
   ·rw [q2] at q4;cases q4;rw [q3] at q5;cases q5)
  exact ⟨g,u,h1,h2,(hk g (.inr (isC_blk h3))).trans h3,hSn.loc A A' u h4 (fun j hj=>hk j (by rcases hj with hj|hj;exact .inl hj;exact .inr (hSn.cel _ _ h4 j hj))),h5⟩
 case ha =>
  rintro l pre x A K ⟨h0,z,hC,hs⟩ hK'
  rw [hra x]
  refine wpIn_mono (y_one (hassign l x A)) (fun e' a' A' q=>?_)
  cases e' with
  | normal =>
   obtain ⟨g,rfl,hbl,hge,hcell⟩:=q
   obtain ⟨u,h1,h2⟩:=hs1 pre z A hC (toL hs)
   have hs':=hs.below hbl
   refine hK' _ _ ((KeepsOthers.mk hbl.size (fun k o hk _=>(hbl.block k (Array.getElem?_eq_some_iff.1 hk).1).trans hk)).from _) ⟨hbl.mono (by omega),fun j hj=>hbl.block j ?_⟩ ⟨Nat.le_trans h0 hbl.size,z,hC,hs'⟩ ⟨g,u,rfl,by omega,hcell,hSn.loc A A' u h1 (fun j hj=>hbl.block j ?_),fun hu=>?_⟩
   ·obtain ⟨f,q1,q2⟩:=hK j hj
    have:=hFB f q1 j q2
    omega
   ·rcases hj with hj|hj
    ·omega
    ·exact (hSn.cel _ _ h1 j hj).lt
   ·have:=(hSn.cel _ _ h1 g hu).lt
    omega
  | _=>exact q.elim
 case hbd =>
  rintro l pre x a' A hl - ⟨h0,z,hC,hs⟩ ⟨gx,u,rfl,hge,hcell,hu,hnu⟩ hlen
  obtain ⟨u',h1,h2⟩:=hs1 pre z A hC (toL hs)
  have hu':∀f∈Lx pre z,∀g,f.fp g->g<W.heap.size∨isC A g:=fun f hf g hg=>(h2 f hf g hg).imp_right (hSn.cel _ _ h1 g)
  have hgx:∀f∈Lx pre z,¬f.fp gx:=fun f hf hg=>by
   rcases h2 f hf gx hg with h|h
   ·omega
   ·exact hnu (hSn.fn _ _ _ h1 hu gx h)
  have hA0:=toL hs
  have hA:St nT w0 A (Fact.blk gx (e x) tb::Lx pre z):=⟨hA0.fr,fun f hf=>by
   rcases List.mem_cons.1 hf with rfl|hf
   ·exact hcell
   ·exact hA0.holds f hf,fun f hf g hg=>by
   rcases List.mem_cons.1 hf with rfl|hf
   ·have:g=gx:=hg
    subst this
    exact ⟨.inr (by omega),(isC_blk hcell).lt⟩
   ·exact hA0.own f hf g hg,List.pairwise_cons.2 ⟨fun f hf g hg hfg=>by
   have:g=gx:=hg
   subst this
   exact hgx f hf hfg,hA0.apart⟩⟩
  obtain ⟨T1,hT1⟩:∃T1:Nat->Prop,T1=fun g=>∃f∈Fact.blk gx (e x) tb::Lx pre z,f.fp g:=⟨_,rfl⟩
  have hal:=hA.alone
  rw [←hT1] at hal
  have hTn:∀g,T1 g->w0.heap.size<=g:=fun g hg=>by
   rw [hT1] at hg
   obtain ⟨f,hf,hg⟩:=hg
   exact (hA.own f hf g hg).1.resolve_left (fun h=>h)
  have hTc:∀g,T1 g->g<W.heap.size∨isC A g:=fun g hg=>by
   rw [hT1] at hg
   obtain ⟨f,hf,hg⟩:=hg
   rcases List.mem_cons.1 hf with rfl|hf
   ·have:g=gx:=hg
    subst this
    exact .inr (isC_blk hcell)
   ·exact hu' f hf g hg
  have hTK:∀f∈FKs,∀g,f.fp g->¬T1 g:=fun f hf g hg hT=>by
   rw [hT1] at hT
   obtain ⟨f',hf',hg'⟩:=hT
   rcases List.mem_cons.1 hf' with rfl|hf'
   ·have:g=gx:=hg'
    have:=hFB f hf g hg
    omega
   ·exact (List.pairwise_append.1 hs.apart).2.2 f hf f' hf' g hg hg'
  have hpast:∀W2,Fr T1 A W2->Below w0.heap.size w0 W2:=fun W2 h=>(hA.fr.trans h (fun g h1 h2=>absurd (hTn g h2) (by omega))).below (Nat.le_refl _) (fun _ h=>h.elim)
  have fin:∀(W2:World) (L':List Fact),St T1 A W2 L'->KeepsFrom W.heap.size A W2∧KeepB w0.heap.size K0 A W2∧St nT w0 W2 L'∧St nT w0 W2 (FKs++L'):=by
   intro W2 L' h
   have hold:∀f∈L',∀g,f.fp g->w0.heap.size<=g:=fun f hf g hg=>by
    rcases (h.own f hf g hg).1 with q|q
    ·exact hTn g q
    ·have:=hA.fr.size;omega
   have hL':St nT w0 W2 L':=⟨hA.fr.trans h.fr (fun g h1 h2=>absurd (hTn g h2) (by omega)),h.holds,fun f hf g hg=>⟨.inr (hold f hf g hg),(h.own f hf g hg).2⟩,h.apart⟩
   have hF:=hs.sub (List.sublist_append_left FKs (Lx pre z))
   have hsame:∀f∈FKs,∀g,f.fp g->W2.heap[g]?=A.heap[g]?:=fun f hf g hg=>h.fr.block g (hF.own f hf g hg).2 (hTK f hf g hg)
   refine ⟨⟨h.fr.size,fun j o hj ho hc=>(h.fr.block j (Array.getElem?_eq_some_iff.1 ho).1 (fun hT=>?_)).trans ho⟩,⟨⟨h.fr.os,h.fr.tape,h.fr.output,h.fr.size,fun j hj=>h.fr.block j (by omega) (fun hT=>by have:=hTn j hT;omega)⟩,fun j hj=>?_⟩,hL',⟨hL'.fr,fun f hf=>?_,fun f hf g hg=>?_,List.pairwise_append.2 ⟨hF.apart,h.apart,fun f hf f' hf' g hg hg'=>?_⟩⟩⟩
   ·rcases hTc j hT with q|⟨o',q1,q2⟩
    ·omega
    ·rw [ho] at q1;cases q1;rw [hc] at q2;cases q2
   ·obtain ⟨f,q1,q2⟩:=hK j hj
    exact hsame f q1 j q2
   ·rcases List.mem_append.1 hf with hf|hf
    ·exact f.st A W2 (hF.holds f hf) (hsame f hf)
    ·exact h.holds f hf
   ·rcases List.mem_append.1 hf with hf|hf
    ·exact ⟨(hF.own f hf g hg).1,Nat.lt_of_lt_of_le (hF.own f hf g hg).2 h.fr.size⟩
    ·exact hL'.own f hf g hg
   ·rcases (h.own f' hf' g hg').1 with q|q
    ·exact hTK f hf g hg q
    ·have:=hFB f hf g hg;omega
  refine wpIn_mono (y_one (hbody l pre x z gx A T1 hC hlen hpast hal)) (fun e' a' W2 q=>?_)
  cases e' with
  | normal =>
   obtain ⟨z',hC',h⟩:=q
   obtain ⟨q1,q2,q3,q4⟩:=fin W2 _ h
   exact ⟨q1,q2,Nat.le_trans h0 h.fr.size,z',hC',q4⟩
  | ret =>
   obtain ⟨z',hC',h⟩:=q
   obtain ⟨q1,q2,q3,q4⟩:=fin W2 _ h
   exact ⟨q1,rfl,z',hC',q3⟩
  | _=>exact q.elim
 case hd =>
  rintro D xs A hD hS ⟨h0,z,hC,hs⟩ hK'
  have hA:=toL hs
  obtain ⟨u,h1,h2⟩:=hs1 xs z A hC hA
  refine k D xs z A hS hC ⟨hA.fr,fun f hf=>?_,fun f hf g hg=>?_,List.pairwise_cons.2 ⟨fun f hf g hg hfg=>?_,hA.apart⟩⟩
  ·rcases List.mem_cons.1 hf with rfl|hf
   ·exact hK'
   ·exact hA.holds f hf
  ·rcases List.mem_cons.1 hf with rfl|hf
   ·cases hg
    exact ⟨.inr (by omega),(Array.getElem?_eq_some_iff.1 hK').1⟩
   ·exact hA.own f hf g hg
  ·cases hg
   rcases h2 f hf D hfg with q|q
   ·omega
   ·obtain ⟨o,q1,q2⟩:=hSn.cel _ _ h1 D q
    rw [hK'] at q1;cases q1;cases q2
 case hst =>
  rintro D cx pre A hD hS ⟨rfl,z,hC,hA⟩ hK'
  refine wpIn_ret ?_
  refine kx D pre z A hS hC ⟨hA.fr,fun f hf=>?_,fun f hf g hg=>?_,List.pairwise_cons.2 ⟨fun f hf g hg hfg=>?_,hA.apart⟩⟩
  ·rcases List.mem_cons.1 hf with rfl|hf
   ·exact hK'
   ·exact hA.holds f hf
  ·rcases List.mem_cons.1 hf with rfl|hf
   ·cases hg
    exact ⟨.inr (by omega),(Array.getElem?_eq_some_iff.1 hK').1⟩
   ·exact hA.own f hf g hg
  ·cases hg
   rcases hsx pre z A hC hA f hf D hfg with q|⟨o,q1,q2⟩
   ·omega
   ·rw [hK'] at q1;cases q1;cases q2
theorem k_rangeU {P:Program} {Q:Exit->Act->World->Prop} {cs:List Code} {n:Nat} {ρ:Nat->Value} {ds:List Deferred} {w0 W:World} {α β β':Type} {g:Operand} {ps:Array Tmp} {assign body:Code} {gf:Nat} {fn:Func} {c:Code} {lb:Array Value} {encs:α->Array Value} {K0:Nat->Prop} {S Sp:List α->Prop} {N:Nat}
  (FKs:List Fact) (Lx:List α->β->List Fact) (C:List α->β->Prop) (Lxx:List α->β'->List Fact) (Cx:List α->β'->Prop) (Sn:World->(Nat->Prop)->Prop) (ra:(Nat->Value)->α->(Nat->Value)) (rb:(Nat->Value)->α->(Nat->Value)) (z0:β)
  (hg : ev n ρ g = .func (.func gf) #[] lb) (hf : P.funcs[gf]? = some fn) (hname : (fn.name == "runtime.NumGoroutine") = false) (hb : fn.body = some c) (hseq : SeqStopsK Fence.wide 2 P gf lb encs (KeepB w0.heap.size K0) S Sp N W) (hps : ∀ x, (encs x).size = ps.size)
  (hra:∀x,({ tmps:=(ps.zip (encs x)).foldl (fun t (p,v)=>t.setIfInBounds p v) (st n ρ ds).tmps,defers:=[] }:Act)=st n (ra ρ x) [])
  (H:St nT w0 W (FKs++Lx [] z0)) (hC0:C [] z0) (hK:∀g,K0 g->∃f∈FKs,f.fp g)
  (hSn:Snap W.heap.size Sn) (hs1:∀pre z W',C pre z->St nT w0 W' (Lx pre z)->∃u,Sn W' u∧∀f∈Lx pre z,∀g,f.fp g->g<W.heap.size∨u g)
  (hsx:∀pre z W',Cx pre z->St nT w0 W' (Lxx pre z)->∀f∈Lxx pre z,∀g,f.fp g->g<W.heap.size∨isC W' g)
  (hassign:∀(l:Nat) (x:α) (W1:World),wpY l P (RoundQ' 0 (fun a' W'=>a'=st n (rb ρ x) []∧Below W1.heap.size W1 W')) [assign] (st n (ra ρ x) []) W1)
  (hbody:∀(l:Nat) (pre:List α) (x:α) (z:β) (W1:World) (T1:Nat->Prop),C pre z->pre.length<N->(∀W2,Fr T1 W1 W2->Below w0.heap.size w0 W2)->St T1 W1 W1 (Lx pre z) ->
   wpY l P (RoundQ (fun W2=>∃z',C (pre++[x]) z'∧St T1 W1 W2 (Lx (pre++[x]) z')) (fun W2=>∃z',Cx (pre++[x]) z'∧St T1 W1 W2 (Lxx (pre++[x]) z'))) [body] (st n (rb ρ x) []) W1)
  (k:∀D xs z W',S xs->C xs z->St nT w0 W' (Fact.obj D (.deferred (some []))::Lx xs z)->wpK P Q cs (st n ρ ({ target:=.collected D,args:=#[] }::ds)) W')
  (kx:∀D pre z W',Sp pre->Cx pre z->St nT w0 W' (Fact.obj D (.deferred (some []))::Lxx pre z)->Q .ret (st n ρ ({ target:=.collected D,args:=#[] }::ds)) W'):wpK P Q (.rangeFunc g ps assign body::cs) (st n ρ ds) W:=by
 have hB:w0.heap.size<=W.heap.size:=H.fr.size
 have hFB:∀f∈FKs,∀g,f.fp g->g<W.heap.size:=fun f hf g hg=>(H.own f (List.mem_append_left _ hf) g hg).2
 have toL:∀{W' pre z},St nT w0 W' (FKs++Lx pre z)->St nT w0 W' (Lx pre z):=fun h=>h.sub (List.sublist_append_right _ _)
 refine (wpIn_wide (n:=3)).1 ?_
 refine wpIn_rangeFunc_ownH (gf:=gf) (lb:=lb) (F:=Fence.wide) (n:=3) (S:=S) (Sp:=Sp) (N:=N) (w0:=W) rfl (by omega) (by rw [st_eval];exact hg) trivial (enters_of hf hname hb) hseq
  (fun h1 h2=>KeepB.trans h1 h2) ?hKb (Below.refl _ _) hps
  (fun pre W'=>W.heap.size<=W'.heap.size∧∃z,C pre z∧St nT w0 W' (FKs++Lx pre z)) (fun cx pre W'=>cx=.ret∧∃z,Cx pre z∧St nT w0 W' (Lxx pre z)) ?hI ?hIx ⟨Nat.le_refl _,z0,hC0,H⟩
  (fun x a' _=>a'=st n (rb ρ x) []) ?hAx ?ha ?hbd ?hd ?hst
 case hKb =>
  intro A l o o' hl _ _ _
  have hg:=grownBy_putObj' A l o'
  exact ⟨⟨hg.os,hg.tape,hg.output,hg.size,fun g hg=>World.putObj_heap_other (by omega)⟩,fun g hg=>by
   obtain ⟨f,h1,h2⟩:=hK g hg
   exact World.putObj_heap_other (by have:=hFB f h1 g h2;omega)⟩
 case hI =>
  rintro pre A A' row ⟨h0,z,hC,hs⟩ hgr hrow
  refine ⟨Nat.le_trans h0 hgr.size,z,hC,hs.turned hgr hrow hB (fun f hf g hg=>?_)⟩
  rcases List.mem_append.1 hf with hf|hf
  ·exact .inl (hFB f hf g hg)
  ·obtain ⟨u,h1,h2⟩:=hs1 pre z A hC (toL hs)
   rcases h2 f hf g hg with h|h
   ·exact .inl h
   ·exact .inr (hSn.cel _ _ h1 g h)
 case hIx =>
  rintro cx pre A A' row ⟨h0,z,hC,hs⟩ hgr hrow
  exact ⟨h0,z,hC,hs.turned hgr hrow hB (hsx pre z A hC hs)⟩
 case hAx=>exact fun x a' _ A A' row h _ _=>h
 case ha =>
  rintro l pre x A K ⟨h0,z,hC,hs⟩ hK'
  rw [hra x]
  refine wpIn_mono (y_one (hassign l x A)) (fun e' a' A' q=>?_)
  cases e' with
  | normal =>
   obtain ⟨rfl,hbl⟩:=q
   have hs':=hs.below hbl
   refine hK' _ _ ((KeepsOthers.mk hbl.size (fun k o hk _=>(hbl.block k (Array.getElem?_eq_some_iff.1 hk).1).trans hk)).from _) ⟨hbl.mono (by omega),fun j hj=>hbl.block j ?_⟩ ⟨Nat.le_trans h0 hbl.size,z,hC,hs'⟩ rfl
   obtain ⟨f,q1,q2⟩:=hK j hj
   have:=hFB f q1 j q2
   omega
  | _=>exact q.elim
 case hbd =>
  rintro l pre x a' A hl - ⟨h0,z,hC,hs⟩ rfl hlen
  obtain ⟨u',h1,h2⟩:=hs1 pre z A hC (toL hs)
  have hu':∀f∈Lx pre z,∀g,f.fp g->g<W.heap.size∨isC A g:=fun f hf g hg=>(h2 f hf g hg).imp_right (hSn.cel _ _ h1 g)
  have hA:=toL hs
  obtain ⟨T1,hT1⟩:∃T1:Nat->Prop,T1=fun g=>∃f∈Lx pre z,f.fp g:=⟨_,rfl⟩
  have hal:=hA.alone
  rw [←hT1] at hal
  have hTn:∀g,T1 g->w0.heap.size<=g:=fun g hg=>by
   rw [hT1] at hg
   obtain ⟨f,hf,hg⟩:=hg
   exact (hA.own f hf g hg).1.resolve_left (fun h=>h)
  have hTc:∀g,T1 g->g<W.heap.size∨isC A g:=fun g hg=>by
   rw [hT1] at hg
   obtain ⟨f,hf,hg⟩:=hg
   exact hu' f hf g hg
  have hTK:∀f∈FKs,∀g,f.fp g->¬T1 g:=fun f hf g hg hT=>by
   rw [hT1] at hT
   obtain ⟨f',hf',hg'⟩:=hT
   exact (List.pairwise_append.1 hs.apart).2.2 f hf f' hf' g hg hg'
  have hpast:∀W2,Fr T1 A W2->Below w0.heap.size w0 W2:=fun W2 h=>(hA.fr.trans h (fun g h1 h2=>absurd (hTn g h2) (by omega))).below (Nat.le_refl _) (fun _ h=>h.elim)
  have fin:∀(W2:World) (L':List Fact),St T1 A W2 L'->KeepsFrom W.heap.size A W2∧KeepB w0.heap.size K0 A W2∧St nT w0 W2 L'∧St nT w0 W2 (FKs++L'):=by
   intro W2 L' h
   have hold:∀f∈L',∀g,f.fp g->w0.heap.size<=g:=fun f hf g hg=>by
    rcases (h.own f hf g hg).1 with q|q
    ·exact hTn g q
    ·have:=hA.fr.size;omega
   have hL':St nT w0 W2 L':=⟨hA.fr.trans h.fr (fun g h1 h2=>absurd (hTn g h2) (by omega)),h.holds,fun f hf g hg=>⟨.inr (hold f hf g hg),(h.own f hf g hg).2⟩,h.apart⟩
   have hF:=hs.sub (List.sublist_append_left FKs (Lx pre z))
   have hsame:∀f∈FKs,∀g,f.fp g->W2.heap[g]?=A.heap[g]?:=fun f hf g hg=>h.fr.block g (hF.own f hf g hg).2 (hTK f hf g hg)
   refine ⟨⟨h.fr.size,fun j o hj ho hc=>(h.fr.block j (Array.getElem?_eq_some_iff.1 ho).1 (fun hT=>?_)).trans ho⟩,⟨⟨h.fr.os,h.fr.tape,h.fr.output,h.fr.size,fun j hj=>h.fr.block j (by omega) (fun hT=>by have:=hTn j hT;omega)⟩,fun j hj=>?_⟩,hL',⟨hL'.fr,fun f hf=>?_,fun f hf g hg=>?_,List.pairwise_append.2 ⟨hF.apart,h.apart,fun f hf f' hf' g hg hg'=>?_⟩⟩⟩
   ·rcases hTc j hT with q|⟨o',q1,q2⟩
    ·omega
    ·rw [ho] at q1;cases q1;rw [hc] at q2;cases q2
   ·obtain ⟨f,q1,q2⟩:=hK j hj
    exact hsame f q1 j q2
   ·rcases List.mem_append.1 hf with hf|hf
    ·exact f.st A W2 (hF.holds f hf) (hsame f hf)
    ·exact h.holds f hf
   ·rcases List.mem_append.1 hf with hf|hf
    ·exact ⟨(hF.own f hf g hg).1,Nat.lt_of_lt_of_le (hF.own f hf g hg).2 h.fr.size⟩
    ·exact hL'.own f hf g hg
   ·rcases (h.own f' hf' g hg').1 with q|q
    ·exact hTK f hf g hg q
    ·have:=hFB f hf g hg;omega
  refine wpIn_mono (y_one (hbody l pre x z A T1 hC hlen hpast hal)) (fun e' a' W2 q=>?_)
  cases e' with
  | normal =>
   obtain ⟨z',hC',h⟩:=q
   obtain ⟨q1,q2,q3,q4⟩:=fin W2 _ h
   exact ⟨q1,q2,Nat.le_trans h0 h.fr.size,z',hC',q4⟩
  | ret =>
   obtain ⟨z',hC',h⟩:=q
   obtain ⟨q1,q2,q3,q4⟩:=fin W2 _ h
   exact ⟨q1,rfl,z',hC',q3⟩
  | _=>exact q.elim
 case hd =>
  rintro D xs A hD hS ⟨h0,z,hC,hs⟩ hK'
  have hA:=toL hs
  obtain ⟨u,h1,h2⟩:=hs1 xs z A hC hA
  refine k D xs z A hS hC ⟨hA.fr,fun f hf=>?_,fun f hf g hg=>?_,List.pairwise_cons.2 ⟨fun f hf g hg hfg=>?_,hA.apart⟩⟩
  ·rcases List.mem_cons.1 hf with rfl|hf
   ·exact hK'
   ·exact hA.holds f hf
  ·rcases List.mem_cons.1 hf with rfl|hf
   ·cases hg
    exact ⟨.inr (by omega),(Array.getElem?_eq_some_iff.1 hK').1⟩
   ·exact hA.own f hf g hg
  ·cases hg
   rcases h2 f hf D hfg with q|q
   ·omega
   ·obtain ⟨o,q1,q2⟩:=hSn.cel _ _ h1 D q
    rw [hK'] at q1;cases q1;cases q2
 case hst =>
  rintro D cx pre A hD hS ⟨rfl,z,hC,hA⟩ hK'
  refine wpIn_ret ?_
  refine kx D pre z A hS hC ⟨hA.fr,fun f hf=>?_,fun f hf g hg=>?_,List.pairwise_cons.2 ⟨fun f hf g hg hfg=>?_,hA.apart⟩⟩
  ·rcases List.mem_cons.1 hf with rfl|hf
   ·exact hK'
   ·exact hA.holds f hf
  ·rcases List.mem_cons.1 hf with rfl|hf
   ·cases hg
    exact ⟨.inr (by omega),(Array.getElem?_eq_some_iff.1 hK').1⟩
   ·exact hA.own f hf g hg
  ·cases hg
   rcases hsx pre z A hC hA f hf D hfg with q|⟨o,q1,q2⟩
   ·omega
   ·rw [hK'] at q1;cases q1;cases q2
end Go.Proofs.YtfhhfhdnhadooaaGreatDoor

namespace Go.Proofs.YtfhhfhdnhadooaaGreatDoor
open Go Go.RowKit
attribute [local irreducible] wpList

abbrev H32:={ h:List UInt8 // h.length=32 }
def digA (t:DTx):H32:=⟨Tx.dig Tx.tTx t,Tx.len_dig⟩
def hsC (l:List H32):List Value:=(l.map fun h=>h.1.map u8v).flatten
theorem hs_snoc {l:List H32} {h:H32}:hsC (l++[h])=hsC l++h.1.map u8v:=by simp [hsC]
theorem hs_sub {l:List H32} {i:Nat} {h:H32} (hi:l[i]?=some h):sub (hsC l) (i*32) 32=h.1.map u8v:=by
 unfold hsC
 exact sub_flat (s:=32) (l.map fun h=>h.1.map u8v) i (h.1.map u8v) (fun c hc=>by
  obtain ⟨x,_,rfl⟩:=List.mem_map.1 hc
  rw [List.length_map];exact x.2) (by rw [List.getElem?_map,hi];rfl)

theorem ids_stops {S K0:Nat->Prop} {q c:Nat} {B:Option Addr} {l:List DTx} (w0 w:World) (hb:Below w0.heap.size w0 w) (hq:Gat w q [.slice B l.length c]) (hKq:K0 q∨q<w0.heap.size) (hKlt:∀g,K0 g->g<w.heap.size) (hl:RL 3 RTx w0 S [.slice B l.length c] l) (hG:Gat w0 0 formsC) (hB:Old.Gl w0) :
  SeqStopsK Fence.wide 2 Tryz.prog 101 [.pointer (some ⟨q,0,none⟩)].toArray (fun x:H32=>#[.agg (x.1.map u8v).toArray]) (KeepB w0.heap.size K0) (fun xs=>xs=l.map digA) (fun pre=>∃k,k<=l.length∧pre=(l.take k).map digA) l.length w:=by
 intro ll J Jx W0 hW hJ hJx hY h0
 refine callsIn_wide.2 ?_
 have hll:=rl_len hl
 have hq0:=hq.keep hW
 rw [show (#[Value.func (.yield ll) #[] #[]]++[Value.pointer (some ⟨q,0,none⟩)].toArray:Array Value)=[Value.func (.yield ll) #[] #[],Value.pointer (some ⟨q,0,none⟩)].toArray from rfl]
 obtain ⟨A_,c_,xs,hv_,hcA_,hcm_,hr,hel⟩:=hl
 cases hv_
 refine kE (l:=[_,_]) Tryz.func101 U U ?_
 have H:=St.start nT W0
 refine kR (sR (d_ldG U (hq0) U ta22 U) (sLn U tu22 (sMi U (ln (kb (kL 7 [4] (fun mm sl W=>∃k:Nat,l.length - k=mm∧sl=[(7,.int .i64 (k:Int))]∧(k<=l.length)∧(J ((l.take k).map digA) W∧KeepB w0.heap.size K0 W0 W)) _ _ ⟨0,U,U,Nat.zero_le _,⟨h0,KeepB.refl⟩⟩ ⟨U,trivial⟩ (fun mm sl ρv W hJ=>?_)))))))
 clear H;obtain ⟨k,rfl,rfl,hk,H⟩:=hJ
 refine ko (kR (sLt U U (ln (kQ (kC U (fun hc8=>?_) (fun hc8=>?_))))))
 ·have hlt:k<l.length:=by simp at hc8;omega
  refine kS (kQ (kb (kQ ?_)))
  obtain ⟨hJ9,hK9⟩:=H
  have hbel:Below w0.heap.size w0 W:=(hb.trans (hW.mono hb.size)).trans hK9.1
  have H:=St.start nT W
  obtain ⟨g0,o0,rfl,-⟩:=hr.2 (by omega)
  obtain ⟨t,ht⟩:=get_lt hlt
  have hRt:=hel k t ht
  obtain ⟨Ai,ci,Bi,di,hL,-,-,-⟩:=tx_of hRt
  rw [hL] at hRt
  refine kr (sR (dG U (hr.keep (fun g hg _=>hbel.block g hg)) U U (q:=k) U hlt tu22 ts34) ?_)
  refine sR (dN (off:=0) U (hr.keep (fun g hg _=>hbel.block g hg)) hlt hL (sa (a:=txC Ai t.ins.length ci Bi t.outs.length di t.lock) (m:=3) U) U U (by omega) ta34 ts34) ?_
  refine sf (eal [.slice none 0 0,.slice none 0 0,.int .i64 0] tz34 H ?_)
  clear H;intro gx W H
  refine sf (esk (txC Ai t.ins.length ci Bi t.outs.length di t.lock) U U U ts34 U U H (by decide) U ?_)
  clear H;intro W H
  refine ln (kQ (k_regionY (rX (fun _=>trivial) (fun c h=>by cases h) (wn U) U (mv_f U U) ?_)))
  refine rX (fun _=>trivial) (fun c h=>by cases h) (wn U) U (dM (g:=gx) (off:=0) U H (sa (a:=txC Ai t.ins.length ci Bi t.outs.length di t.lock) (m:=3) U) U U U U ta34 ts34) ?_
  refine r_eff (fun _=>trivial) (fun c h=>by cases h) (e_call (wn U) U U Tryz.func35 U U U (idTP _ (keeps_Tx _ _ _ _ _ hRt (fun g hg _=>(hbel.trans (H.under.mono hbel.size)).block g hg)) (hG.keep (hbel.trans (H.under.mono hbel.size))) (hB.below (hbel.trans (H.under.mono hbel.size)) (Nat.le_refl _))) ?_)
  rintro _ W ⟨rfl,hb⟩
  replace H:=H.below hb
  clear hb
  have hKn:KeepB w0.heap.size K0 W0 W:=hK9.trans ⟨H.under.mono hbel.size,fun g hg=>H.under.block g (by have h1:=hKlt g hg;have h2:=hW.size;have h3:=hK9.1.size;omega)⟩
  refine r_yield (la:=[.agg ((Tx.dig Tx.tTx t).map u8v).toArray]) (fun _=>trivial) rfl (wn rfl) rfl rfl rfl rfl (hY _ (digA t) W (hJ _ _ _ none hJ9 (below_grown H.under) (fun r e=>by cases e)) (by rw [List.length_map,List.length_take];omega)) (fun e W' q=>by rcases q with ⟨rfl,_⟩|⟨rfl,_⟩ <;> exact ⟨_,rfl⟩) ?_
  intro bb W hR2
  refine rX (fun _=>trivial) (fun c h=>by cases h) (wn U) U (d_not U U) ?_
  refine r_nil (kC U (fun hc15=>?_) (fun hc15=>?_))
  ·skip
   refine kx ?_
   have h3:=hR2.resolve_left (fun h=>by cases h.1;simp at hc15)
   exact q_ret0 U ⟨⟨_,U⟩,.inr ⟨_,⟨k+1,by omega,by rw [take_get ht,List.map_append];rfl⟩,h3.2⟩⟩
  ·skip
   refine kS (kn (zE (kr (sAd U U (by omega) (sMi U (ln (kn (kY ?_))))))))
   obtain ⟨_,hJ2,hK2⟩:=hR2.resolve_right (fun h=>by cases h.1;simp at hc15)
   have hH:J ((l.take (k+1)).map digA) W∧KeepB w0.heap.size K0 W0 W:=⟨by rw [take_get ht,List.map_append];exact hJ2,hKn.trans hK2⟩
   refine ⟨_,_,_,?_,U,?_,?_,⟨k+1,U,U,by omega,hH⟩⟩
   ·omega
   ·with_reducible repeat first|exact .refl|refine .f ?_ ?_ ?_;kernel_rfl;kernel_rfl|refine .u ?_ ?_;kernel_rfl
   ·refine ⟨?_,trivial⟩
    ·exact vi (by omega)
 ·have hge:k=l.length:=by simp at hc8;omega
  refine ke (xt (xt ?_))
  refine xH (kn ?_)
  subst hge
  rw [List.take_length] at H
  exact q_end0 U ⟨⟨_,U⟩,.inl ⟨_,U,H.1⟩⟩

theorem idsP {A:Option Addr} {m c:Nat} (w:World):Calls Tryz.prog 50 [.slice A m c].toArray w (Ret (fun v' w'=>∃q,v'=.func (.func 101) #[] [.pointer (some ⟨q,0,none⟩)].toArray∧New w w' (Fact.blk q [.slice A m c] 22))):=by
 refine kE (l:=[_]) Tryz.func50 U U ?_
 have H:=St.start nT w
 refine kR (sf (ebx (vs:=[.slice A m c]) U U H ?_))
 clear H;intro g1 W H
 refine sR (d_asg U U) (lkR (sR (d_mkf U U U) (sR (as_f U U) (ln (kx ?_)))))
 exact qr (v:=.func _ _ _) U U ⟨_,U,g1,U,H.give⟩

theorem appendSeqH {lb:Array Value} {l:List H32} (w:World) {Sp:List H32->Prop} {N:Nat} (hs:∀W,Below w.heap.size w W->SeqStopsK Fence.wide 2 Tryz.prog 101 lb (fun x:H32=>#[.agg (x.1.map u8v).toArray]) (KeepB w.heap.size (fun _=>False)) (fun xs=>xs=l) Sp N W) (hn:N<=1000000):Calls Tryz.prog 104 [.slice none 0 0,.func (.func 101) #[] lb].toArray w (Ret (fun v' w'=>∃A c,v'=.slice A l.length c∧l.length<=c∧c<=9223372036854775807∧New w w' (Fact.row 24 32 (.slice A l.length c) l.length (hsC l)))):=by
 refine k_enterM (l:=[_,_]) Tryz.func104 U U ?_
 have H:=St.start nT w
 refine kR (sf (ebx (vs:=[.slice none 0 0]) U U H ?_))
 clear H;intro g2 W H
 refine sAs U (ln (kQ (kR (sMf U (ln (kb ?_))))))
 have hg2:=blk_lt (H.blk (g:=g2))
 replace H:=(H.nilrow 24 32).perm (.swap _ _ _)
 refine k_rangeB (α:=H32) [] (fun pre (z:Option Addr × Nat)=>[Fact.blk g2 [.slice z.1 pre.length z.2] 68,Fact.row 24 32 (.slice z.1 pre.length z.2) pre.length (hsC pre)]) (fun pre z=>pre.length<=z.2∧z.2<=9223372036854775807) (fun _ (_:Unit)=>[]) (fun _ _=>False) (SnRow g2 68 24 32) (fun x=>x.1.map u8v) 24 (fun ρ x=>upd ρ 7 (.agg (x.1.map u8v).toArray)) (fun ρ x g=>upd (upd ρ 7 (.agg (x.1.map u8v).toArray)) 5 (.pointer (some ⟨g,0,none⟩))) (none,0) U Tryz.func101 U U (hs W H.under) (fun _=>U) (fun _=>ra_one) H ⟨Nat.le_refl _,by omega⟩ (fun _ h=>h.elim) (snapRow hg2) (fun pre z W1 hC H1=>s1_row hg2 H1) (fun _ _ _ h=>h.elim) ?_ ?_ ?_ ?_
 ·intro l x W1
  clear H
  have H:=St.start nT W1
  refine y_region (r_eff (fun _=>trivial) (fun c h=>by cases h) (e_alloc (wn U) U U (List.replicate 32 (u8v 0)) tz24 H ?_))
  clear H;intro gx W H
  refine r_eff (fun _=>trivial) (fun c h=>by cases h) (e_stoK (x.1.map u8v) (wn U) U U U U U ts24 (by rw [List.length_map];exact x.2) (all_u8L _) H (by decide) (spl_all (by rw [List.length_map,List.length_replicate];exact x.2)) ?_)
  clear H;intro W H
  refine ry_nil (y_nil (round_a ?_))
  exact ⟨gx,U,H.under,(H.own _ (.head _) gx U).1.resolve_left (fun h=>h),H.blk⟩
 ·rintro l_ pre x ⟨A,c⟩ gx W1 T1 hC hlen hpast H
  replace H:St T1 W1 W1 [Fact.blk gx (x.1.map u8v) 24,Fact.blk g2 [.slice A pre.length c] 68,Fact.row 24 32 (.slice A pre.length c) pre.length (hsC pre)]:=H
  obtain ⟨hc,hd⟩:=hC
  dsimp only at hc hd
  refine y_block (y_region (rX (fun _=>trivial) (fun c h=>by cases h) (wn U) U (d_ld U H U ta68 U) ?_))
  refine rX (fun _=>trivial) (fun c h=>by cases h) (wn U) U (d_ldm0 (g:=gx) U H U ta24 ts24 (by rw [List.length_map];exact x.2)) ?_
  refine r_eff (fun _=>trivial) (fun c h=>by cases h) (e_bsl (xs:=[.tmp 9]) (vals:=[.agg (x.1.map u8v).toArray]) (vs:=(x.1.map u8v)) (wn U) U U U U U U tu68 ts24 ty24 U (by simp [agg_cells,x.2]) (by simp [agg_cells]) H ?_)
  clear H;intro g3_2 W H
  refine r_eff (fun _=>trivial) (fun c h=>by cases h) (e_app (wn U) U U tu68 tx24 U U U H (rd_blk (m:=1) H.blk (by rw [List.length_map];exact x.2)) (all_u8L _) (by omega) U ?_)
  clear H;intro A1 c1 W hc1 hd1 H
  replace H:=H.drop
  refine r_eff (fun _=>trivial) (fun c h=>by cases h) (e_sto (wn U) U U U U U ts68 U H U ?_)
  clear H;intro W H
  refine ry_nil (y_nil (yb_end (y_nil (round_n ?_))))
  have e1:(pre++[x]).length=pre.length+1:=by simp
  refine ⟨(A1,c1),⟨by rw [e1];exact hc1,hd1⟩,?_⟩
  show St T1 W1 W [Fact.blk g2 [.slice A1 (pre++[x]).length c1] 68,Fact.row 24 32 (.slice A1 (pre++[x]).length c1) (pre++[x]).length (hsC (pre++[x]))]
  rw [e1,hs_snoc]
  exact H.sub (L':=[_,_]) (.cons _ (.refl _))
 ·rintro D xs ⟨A,c⟩ W hS ⟨hc,hd⟩ H
  subst hS
  replace H:St nT w W [Fact.obj D (.deferred (some [])),Fact.blk g2 [.slice A xs.length c] 68,Fact.row 24 32 (.slice A xs.length c) xs.length (hsC xs)]:=H
  refine kn (zE (kR (sR (d_ld U H U ta68 U) (sAs U (ln (kx ?_))))))
  refine q_M1 H (fun W H=>?_)
  exact qr (v:=.slice _ _ _) U U ⟨_,U,A,c,U,hc,hd,H.give⟩
 ·exact fun _ _ _ _ _ h=>h.elim

theorem collectH {lb:Array Value} {l:List H32} (w:World) {Sp:List H32->Prop} {N:Nat} (hs:∀W,Below w.heap.size w W->SeqStopsK Fence.wide 2 Tryz.prog 101 lb (fun x:H32=>#[.agg (x.1.map u8v).toArray]) (KeepB w.heap.size (fun _=>False)) (fun xs=>xs=l) Sp N W) (hn:N<=1000000):Calls Tryz.prog 52 [.func (.func 101) #[] lb].toArray w (Ret (fun v' w'=>∃A c,v'=.slice A l.length c∧l.length<=c∧c<=9223372036854775807∧New w w' (Fact.row 24 32 (.slice A l.length c) l.length (hsC l)))):=by
 refine kE (l:=[_]) Tryz.func52 U U ?_
 have H:=St.start nT w
 refine kR (sAs U (lkR (sMf U (sf (ecl Tryz.func104 U U (appendSeqH _ (fun W hb=>hs W hb) hn) ?_)))))
 rintro _ W ⟨A1,c1,rfl,hc1,hd1,hn1⟩
 replace H:=H.new hn1
 clear hn1
 refine sAs U (ln (kx ?_))
 exact qr (v:=.slice _ _ _) U U ⟨_,U,A1,c1,U,hc1,hd1,H.give⟩

abbrev Ch (n:Nat):={ k:Nat // 2*k<n }
def cutV (g0 o0 n k:Nat):Value:=.slice (some ⟨g0,o0+2*k*32,none⟩) (min 2 (n - 2*k)) (min 2 (n - 2*k))
theorem rd_elem {W:World} {S:Nat->Prop} {g o m s i a0:Nat} {xs c:List Value} (h:Rd W S s (some ⟨g,o,none⟩) m xs) (hi:i<m) (hc:sub xs (i*s) s=c) (hl:c.length=s) (ha:a0=o+i*s):Rd W S 1 (some ⟨g,a0,none⟩) s c:=by
 subst hc ha
 obtain ⟨g',o',e,h1,h2⟩:=h.2 (by omega)
 cases e
 refine ⟨by omega,fun _=>⟨g,o+i*s,U,h1,fun j u hu=>?_⟩⟩
 unfold sub at hu
 rw [List.getElem?_take] at hu
 split at hu
 ·rw [List.getElem?_drop] at hu
  have:=h2 (i*s+j) u hu
  rwa [←Nat.add_assoc] at this
 ·cases hu
abbrev BTG:Bk.Dig:=Old.Bl.tagged
def tNodeB:ByteArray:=⟨#[110,111,100,101]⟩
def z32H:H32:=⟨List.replicate 32 0,List.length_replicate⟩
def upH (l:List H32) (k:Nat):H32:=⟨if 2*k+1<l.length then BTG Bk.tNode ((l.getD (2*k) z32H).1++(l.getD (2*k+1) z32H).1) else (l.getD (2*k) z32H).1,by
 split
 ·exact Old.Bl.len_tagged _ _
 ·exact (l.getD (2*k) z32H).2⟩
def pairsH (l:List H32):List H32:=(List.range ((l.length+1) / 2)).map (upH l)
theorem val_getD {l:List H32} {k:Nat} (h:k<l.length):(l.map (·.1)).getD k []=(l.getD k z32H).1:=by
 rw [List.getD_eq_getElem?_getD,List.getD_eq_getElem?_getD,List.getElem?_map,List.getElem?_eq_getElem h]
 rfl
theorem val_pairs (l:List H32):(pairsH l).map (·.1)=Bk.pairs BTG (l.map (·.1)):=by
 apply List.ext_getElem?
 intro k
 have hl:=Bk.len_pairs (TG:=BTG) (l.map (·.1))
 rw [List.length_map] at hl
 by_cases h:2*k<l.length
 ·rw [Bk.pairs_get (l.map (·.1)) k (by rw [List.length_map];exact h)]
  unfold pairsH
  rw [List.getElem?_map,List.getElem?_map,List.getElem?_range (by omega)]
  simp only [Option.map_some,upH,List.length_map]
  congr 1
  by_cases h1:2*k+1<l.length
  ·rw [if_pos h1,if_pos h1,val_getD h,val_getD h1]
  ·rw [if_neg h1,if_neg h1,val_getD h]
 ·rw [List.getElem?_eq_none (by unfold pairsH;simp;omega),List.getElem?_eq_none (by omega)]
theorem root_pairsH {l:List H32} (h:2<=l.length):Bk.root BTG (l.map (·.1))=Bk.root BTG ((pairsH l).map (·.1)):=by
 rw [Bk.root_two (by rw [List.length_map];exact h),val_pairs]
theorem len_root (l:List H32):(Bk.root BTG (l.map (·.1))).length=32:=by
 have key:∀n (l:List H32),l.length=n->(Bk.root BTG (l.map (·.1))).length=32:=by
  intro n
  induction n using Nat.strongRecOn with
  | _ n ih =>
   intro l hl
   match l,hl with
   | [],_=>rfl
   | [a],_=>exact a.2
   | a::b::l,hl =>
    rw [root_pairsH (by simp)]
    refine ih _ ?_ (pairsH (a::b::l)) U
    subst hl
    unfold pairsH
    simp
    omega
 exact key _ l U
theorem hs_get {l:List H32} {k:Nat} (h:k<l.length):sub (hsC l) (k*32) 32=(l.getD k z32H).1.map u8v:=hs_sub (by rw [List.getD_eq_getElem?_getD,List.getElem?_eq_getElem h];rfl)
theorem upH_two {l:List H32} {k:Nat} (h:2*k+1<l.length):(upH l k).1=Old.Bl.tagged tNodeB.data.toList ((l.getD (2*k) z32H).1++(l.getD (2*k+1) z32H).1):=by
 show (if _ then _ else _)=_
 rw [if_pos h];rfl
theorem upH_one {l:List H32} {k:Nat} (h:¬2*k+1<l.length):(upH l k).1=(l.getD (2*k) z32H).1:=by
 show (if _ then _ else _)=_
 rw [if_neg h]

theorem chunk_stops {K0:Nat->Prop} {q1 q2 g0 o0 n c n0:Nat} (w:World) (hq1:Gat w q1 [.slice (some ⟨g0,o0,none⟩) n c]) (hq2:Gat w q2 [.int .i64 2]) (hK1:K0 q1) (hKq2:K0 q2) (hKlt:∀g,K0 g->g<w.heap.size) (hn0:n0<=w.heap.size) (hnc:n<=c) (hn:n<=1000000) :
  SeqStopsK Fence.wide 2 Tryz.prog 145 [.pointer (some ⟨q1,0,none⟩),.pointer (some ⟨q2,0,none⟩)].toArray (fun x:Ch n=>#[cutV g0 o0 n x.1]) (KeepB n0 K0) (fun xs=>xs.map (·.1)=List.range ((n+1) / 2)) (fun _=>True) ((n+1) / 2) w:=by
 intro ll J Jx W0 hW hJ hJx hY h0
 refine callsIn_wide.2 ?_
 replace hq1:=hq1.keep hW
 replace hq2:=hq2.keep hW
 rw [show (#[Value.func (.yield ll) #[] #[]]++[.pointer (some ⟨q1,0,none⟩),.pointer (some ⟨q2,0,none⟩)].toArray:Array Value)=[Value.func (.yield ll) #[] #[],.pointer (some ⟨q1,0,none⟩),.pointer (some ⟨q2,0,none⟩)].toArray from rfl]
 refine kE (l:=[_,_,_]) Tryz.func145 U U ?_
 have H:=St.start nT W0
 refine kR (sAi U (ln (kb (kL 4 [] (fun mm sl W=>∃k:Nat,∃pre:List (Ch n),n - 2*k=mm∧sl=[(4,.int .i64 (2*(k:Int)))]∧(2*k<=n+1)∧(pre.map (·.1)=List.range k)∧(J pre W∧KeepB n0 K0 W0 W)) _ _ ⟨0,[],U,U,by omega,U,⟨h0,KeepB.refl⟩⟩ ⟨U,trivial⟩ (fun mm sl ρv W hJ=>?_)))))
 clear H;obtain ⟨k,pre,rfl,rfl,hk,hp,H⟩:=hJ
 refine ko (kQ (kQ ?_))
 have hq1n:=hq1.same (H.2.2 q1 hK1)
 have hq2n:=hq2.same (H.2.2 q2 hKq2)
 have hpl:pre.length=k:=by have:=congrArg List.length hp;simpa using this
 obtain ⟨hJ9,hK9⟩:=H
 refine kr (sMi U (sR (d_ldG U (hq1n) U ta68 U) (sLn U tu68 (sLt U U (ln (kC U (fun hc9=>?_) (fun hc9=>?_)))))))
 ·have hlt:2*k<n:=by simp at hc9;omega
  refine kS (kQ (kb (kQ ?_)))
  have H:=St.start nT W
  refine k_draw [(0,true),(1,true),(2,true),(3,true),(4,true),(5,true),(6,true)] _ (by kernel_rfl) (by kernel_rfl) H (.refl _) ?_
  clear H;intro W H
  refine cR U (fun W H=>d_ldG U ((hq2n.keep H.under)) U ta3 U) (cR U (fun W H=>d_ldG U ((hq1n.keep H.under)) U ta68 U) (cMi U U (cR U (fun W H=>d_cutS U U (l:=2*k) (by omega) (by omega) U tu68 ts24) (cR U (fun W H=>d_len U U tu68) (cR U (fun W H=>d_min U U U) (cAi U U (c_nil (kQ (k_regionY (rX (fun _=>trivial) (fun c h=>by cases h) (wn U) U (mv_f U U) ?_))))))))))
  refine rX (fun _=>trivial) (fun c h=>by cases h) (wn U) U (d_ldG U ((hq1n.keep H.under)) U ta68 U) ?_
  refine rX (fun _=>trivial) (fun c h=>by cases h) (wn U) U (mv_i U U) ?_
  refine rX (fun _=>trivial) (fun c h=>by cases h) (wn U) U (mv_i U U) ?_
  refine rX (fun _=>trivial) (fun c h=>by cases h) (wn U) U (mv_i U U) ?_
  refine rX (fun _=>trivial) (fun c h=>by cases h) (wn U) U (d_add U U U (by omega)) ?_
  refine rX (fun _=>trivial) (fun c h=>by cases h) (wn U) U (mv_i U U) ?_
  refine rX (fun _=>trivial) (fun c h=>by cases h) (wn U) U (mv_i U U) ?_
  refine rX (fun _=>trivial) (fun c h=>by cases h) (wn U) U (d_add U U U (by omega)) ?_
  refine rX (fun _=>trivial) (fun c h=>by cases h) (wn U) U (d_cut3 (l:=2*k) (h:=2*k+min 2 (n - 2*k)) (mx:=2*k+min 2 (n - 2*k)) U U U U (by omega) (by omega) (by omega) (by omega) (by omega) (by omega) U tu68 ts24) ?_
  have hKn:KeepB n0 K0 W0 W:=hK9.trans ⟨H.under.mono (by have h2:=hW.size;have h3:=hK9.1.size;omega),fun g hg=>H.under.block g (by have h1:=hKlt g hg;have h2:=hW.size;have h3:=hK9.1.size;omega)⟩
  refine r_yield (la:=[cutV g0 o0 n k]) (fun _=>trivial) U (wn U) U U U (by
   show [Value.slice _ _ _]=_
   rw [if_neg (by omega),show 2*k+min 2 (n - 2*k) - 2*k=min 2 (n - 2*k) by omega,Option.map_some,Addr.add_mid]
   rfl) (hY pre ⟨k,hlt⟩ W (hJ _ _ _ none hJ9 (below_grown H.under) (fun r e=>by cases e)) (by omega)) (fun e W' q=>by rcases q with ⟨rfl,_⟩|⟨rfl,_⟩ <;> exact ⟨_,rfl⟩) ?_
  intro bb W hR2
  refine rX (fun _=>trivial) (fun c h=>by cases h) (wn U) U (d_not U U) ?_
  refine r_nil (kC U (fun hc30=>?_) (fun hc30=>?_))
  ·skip
   refine kx ?_
   have h3:=hR2.resolve_left (fun h=>by cases h.1;simp at hc30)
   exact q_ret0 U ⟨⟨_,U⟩,.inr ⟨_,trivial,h3.2⟩⟩
  ·obtain ⟨_,hJ2,hK2⟩:=hR2.resolve_right (fun h=>by cases h.1;simp at hc30)
   have hK3:=hKn.trans hK2
   refine kS (kn (zE ?_))
   skip
   refine kr (sMi U (sR (d_ldG U ((hq2.same (hK3.2 q2 hKq2))) U ta3 U) (sAd U U (by omega) (sAi U (ln (kn (kY ?_)))))))
   have hH:J (pre++[⟨k,hlt⟩]) W∧KeepB n0 K0 W0 W:=⟨hJ2,hK3⟩
   refine ⟨_,_,_,?_,U,?_,?_,⟨k+1,pre++[⟨k,hlt⟩],U,U,by omega,by rw [List.map_append,hp,List.range_succ];rfl,hH⟩⟩
   ·omega
   ·with_reducible repeat first|exact .refl|refine .f ?_ ?_ ?_;kernel_rfl;kernel_rfl|refine .u ?_ ?_;kernel_rfl
   ·refine ⟨?_,trivial⟩
    ·exact vi (by omega)
 ·have hge:n<=2*k:=by simp at hc9;omega
  refine ke (xt (xt ?_))
  exact xH (kn (q_end0 U ⟨⟨_,U⟩,.inl ⟨_,by show pre.map (·.1)=_;rw [hp,show (n+1) / 2=k by omega],hJ9⟩⟩))

theorem chunkP {A:Option Addr} {n c:Nat} (w:World):Calls Tryz.prog 102 [.slice A n c,.int .i64 2].toArray w (Ret (fun v' w'=>∃q1 q2,v'=.func (.func 145) #[] [.pointer (some ⟨q1,0,none⟩),.pointer (some ⟨q2,0,none⟩)].toArray∧St nT w w' [Fact.blk q2 [.int .i64 2] 3,Fact.blk q1 [.slice A n c] 68])):=by
 refine kE (l:=[_,_]) Tryz.func102 U U ?_
 have H:=St.start nT w
 refine kR (sf (ebx (vs:=[.slice A n c]) U U H ?_))
 clear H;intro g1 W H
 refine sf (ebx (vs:=[.int .i64 2]) U U H ?_)
 clear H;intro g2 W H
 refine sR (d_asg U U) (ln (kQ (kR (sR (d_ld U H U ta3 U) (sLt U U (ln (kF U U (kS (kR (sR (d_mkf U U U) (sR (as_f U U) (ln ?_))))))))))))
 refine kx ?_
 exact qr (v:=.func _ _ _) U U ⟨_,U,g1,g2,U,H⟩

theorem gatb {W:World} {g:Nat} {c:List Value} {t:TypeId} (h:W.heap[g]?=some (.cells c.toArray t (0,0))):Gat W g c:=gat_of h
theorem s1_rowC {w0 W:World} {B g2 t e s m c:Nat} {A:Option Addr} {xs:List Value} {L:List Fact} (hB:g2<B) (hL:∀f∈L,∀g,f.fp g->g<B) (H:St nT w0 W (Fact.blk g2 [.slice A m c] t::Fact.row e s (.slice A m c) m xs::L)):∃u,SnRow g2 t e s W u∧∀f∈Fact.blk g2 [.slice A m c] t::Fact.row e s (.slice A m c) m xs::L,∀g,f.fp g->g<B∨u g:=by
 refine ⟨fun g=>(Value.slice A m c).ownBlock=some g,⟨A,m,c,xs,H.holds _ (.head _),H.holds _ (.tail _ (.head _)),fun _=>Iff.rfl⟩,fun f hf g hg=>?_⟩
 rcases List.mem_cons.1 hf with rfl|hf
 ·have:g=g2:=hg
  omega
 ·rcases List.mem_cons.1 hf with rfl|hf
  ·exact .inr hg
  ·exact .inl (hL f hf g hg)
theorem fp_one {B g2:Nat} {c:List Value} {t:TypeId} (h:g2<B):∀f∈[Fact.blk g2 c t],∀g,f.fp g->g<B:=fun f hf g hg=>by
 obtain rfl:=List.mem_singleton.1 hf
 have:g=g2:=hg
 omega
theorem rd_cut {W:World} {S:Nat->Prop} {g o n s i m a0:Nat} {xs:List Value} (h:Rd W S s (some ⟨g,o,none⟩) n xs) (hi:i+m<=n) (ha:a0=o+i*s):Rd W S s (some ⟨g,a0,none⟩) m (sub xs (i*s) (m*s)):=by
 subst ha
 refine ⟨?_,fun hm=>?_⟩
 ·unfold sub
  rw [List.length_take,List.length_drop,h.1]
  have:(i+m)*s<=n*s:=Nat.mul_le_mul_right s hi
  rw [Nat.add_mul] at this
  omega
 ·obtain ⟨g',o',e,h1,h2⟩:=h.2 (by omega)
  cases e
  refine ⟨g,o+i*s,U,h1,fun j u hu=>?_⟩
  unfold sub at hu
  rw [List.getElem?_take] at hu
  split at hu
  ·rw [List.getElem?_drop] at hu
   have:=h2 (i*s+j) u hu
   rwa [←Nat.add_assoc] at this
  ·cases hu
def upsH (l:List H32) (pre:List (Ch l.length)):List H32:=pre.map (fun x=>upH l x.1)
theorem ups_snoc {l:List H32} {pre:List (Ch l.length)} {x:Ch l.length}:upsH l (pre++[x])=upsH l pre++[upH l x.1]:=by simp [upsH]
theorem ups_all {l:List H32} {xs:List (Ch l.length)} (h:xs.map (·.1)=List.range ((l.length+1) / 2)):upsH l xs=pairsH l:=by
 unfold upsH pairsH
 rw [←h,List.map_map];rfl
theorem len_pairsH (l:List H32):(pairsH l).length=(l.length+1) / 2:=by unfold pairsH;simp
theorem rd_chunk {W:World} {S:Nat->Prop} {g0 o0:Nat} {l:List H32} (h:Rd W S 32 (some ⟨g0,o0,none⟩) l.length (hsC l)) (x:Ch l.length):Rd W S 32 (some ⟨g0,o0+2*x.1*32,none⟩) (min 2 (l.length - 2*x.1)) (sub (hsC l) (2*x.1*32) (min 2 (l.length - 2*x.1)*32)):=by
 have:=x.2
 exact rd_cut h (i:=2*x.1) (by omega) U
theorem chunk_0 {l:List H32} (x:Ch l.length):sub (sub (hsC l) (2*x.1*32) (min 2 (l.length - 2*x.1)*32)) (0*32) 32=(l.getD (2*x.1) z32H).1.map u8v:=by
 have:=x.2
 rw [sub_sub (by omega),Nat.zero_mul,Nat.add_zero]
 exact hs_get x.2
theorem chunk_1 {l:List H32} {x:Ch l.length} (h:2*x.1+1<l.length):sub (sub (hsC l) (2*x.1*32) (min 2 (l.length - 2*x.1)*32)) (1*32) 32=(l.getD (2*x.1+1) z32H).1.map u8v:=by
 rw [sub_sub (by omega),show 2*x.1*32+1*32=(2*x.1+1)*32 by omega]
 exact hs_get h
theorem len_v (h:H32):h.1.length=32:=h.2
theorem sub_00 {c:List Value} (h:c.length=32):sub c (0*32) 32=c:=sa h
theorem len_h (h:H32):(h.1.map u8v).length=32:=by rw [List.length_map];exact h.2

theorem rootN:∀(N:Nat) {S:Nat->Prop} {A:Option Addr} {c:Nat} {l:List H32} (w:World),l.length=N->Old.Gl w->Rd w S 32 A l.length (hsC l)->l.length<=c->l.length<=1000000->Calls Tryz.prog 51 [.slice A l.length c].toArray w (Ret (Is w (.agg ((Bk.root BTG (l.map (·.1))).map u8v).toArray))):=by
 intro N
 induction N using Nat.strongRecOn
 rename_i N ih
 intro S A c l w hN hB hr hlc hn
 refine k_enterM (l:=[_]) Tryz.func51 U U ?_
 have H:=St.start nT w
 refine kR (sf (eal (List.replicate 32 (u8v 0)) tz24 H ?_))
 clear H;intro g2 W H
 refine ln (kQ (kR (sMs U (sLn U tu68 (ln (kb (kR (sEq U U (sAb U (ln (kC U (fun hc7=>?_) (fun hc7=>?_))))))))))))
 ·have h0:l=[]:=by have:=eq_of_beq hc7;exact List.eq_nil_of_length_eq_zero (by omega)
  refine kR (sR (dB (vs:=(List.replicate 32 (0:UInt8)).map u8v) U (by kernel_rfl)) ?_)
  refine sf (esk ((List.replicate 32 (0:UInt8)).map u8v) U U U ts24 (by simp) (all_u8L _) H (by decide) (spl_all (by simp)) ?_)
  clear H;intro W H
  refine ln (kx ?_)
  subst h0
  exact q_M0 (q_retc U (c:=(List.replicate 32 (0:UInt8)).map u8v) (g:=g2) H U ta24 ts24 ⟨_,U,U,H.under⟩)
 ·have h0:l.length≠0:=fun e=>by rw [e] at hc7;cases hc7
  refine kR (sEq U U (sAb U (ln (kC U (fun hc10=>?_) (fun hc10=>?_)))))
  ·have h1:l.length=1:=by have:=eq_of_beq hc10;omega
   obtain ⟨g0,o0,rfl,-⟩:=hr.2 (by omega)
   refine kR (sMs U (sR (dG (q:=0) U (H.rd hr) U U U (by omega) tu68 ts24) (sR (dN (off:=0) (j:=32) (q:=0) U (H.rd hr) (by omega) (hs_get (k:=0) (by omega)) (sa (len_h _)) U U (by omega) ta24 ts24) (sf (esk ((l.getD 0 z32H).1.map u8v) U U U ts24 (by rw [List.length_map];exact (l.getD 0 z32H).2) (all_u8L _) H (by decide) (spl_all (by rw [List.length_map,List.length_replicate];exact (l.getD 0 z32H).2)) ?_)))))
   clear H;intro W H
   refine ln (kx ?_)
   have e:Bk.root BTG (l.map (·.1))=(l.getD 0 z32H).1:=by
    match l,h1 with
    | [a],_=>rfl
   rw [e]
   exact q_M0 (q_retc U (c:=(l.getD 0 z32H).1.map u8v) (g:=g2) H U ta24 (by rw [len_h];exact ts24) ⟨_,U,U,H.under⟩)
  ·have h1:l.length≠1:=fun e=>by rw [e] at hc10;cases hc10
   refine kS (kn (zE (kR (sf (eal [.slice none 0 0] tz68 H ?_)))))
   clear H;intro g3 W H
   refine ln (kQ (kR (sMs U (sf (ecl Tryz.func102 U U (chunkP _) ?_)))))
   rintro _ W ⟨q1,q2,rfl,hn1⟩
   replace H:=H.add2 hn1
   clear hn1
   refine ln (kb ?_)
   obtain ⟨g0,o0,rfl,-⟩:=hr.2 (by omega)
   have hg3:=blk_lt (H.blk (g:=g3))
   have hg2:=blk_lt (H.blk (g:=g2))
   have hq1:=gatb (H.blk (g:=q1))
   have hq2:=gatb (H.blk (g:=q2))
   have hQ1:=blk_lt (H.blk (g:=q1))
   have hQ2:=blk_lt (H.blk (g:=q2))
   have hsz:=H.fr.size
   replace H:=(H.nilrow 24 32).perm (List.perm_middle (l₁:=[_,_,_])).symm
   refine k_rangeU (α:=Ch l.length) [Fact.blk q2 [.int .i64 2] 3,Fact.blk q1 [.slice (some ⟨g0,o0,none⟩) l.length c] 68] (fun pre (z:Option Addr × Nat)=>[Fact.blk g3 [.slice z.1 (upsH l pre).length z.2] 68,Fact.row 24 32 (.slice z.1 (upsH l pre).length z.2) (upsH l pre).length (hsC (upsH l pre)),Fact.blk g2 (List.replicate 32 (u8v 0)) 24]) (fun pre z=>(upsH l pre).length<=z.2∧z.2<=9223372036854775807) (fun _ (_:Unit)=>[]) (fun _ _=>False) (SnRow g3 68 24 32) (fun ρ x=>upd ρ 17 (cutV g0 o0 l.length x.1)) (fun ρ x=>upd (upd ρ 17 (cutV g0 o0 l.length x.1)) 4 (cutV g0 o0 l.length x.1)) (none,0) rfl Tryz.func145 rfl rfl (chunk_stops (K0:=fun g=>g=q1∨g=q2) (n0:=w.heap.size) W hq1 hq2 (.inl rfl) (.inr rfl) (fun g hg=>by rcases hg with rfl|rfl <;> assumption) hsz hlc hn) (fun _=>rfl) (fun _=>ra_one) H ⟨Nat.le_refl _,by omega⟩ (fun g hg=>by rcases hg with rfl|rfl;exact ⟨_,.tail _ (.head _),rfl⟩;exact ⟨_,.head _,rfl⟩) (snapRow hg3) (fun pre z W1 hC H1=>s1_rowC hg3 (fp_one hg2) H1) (fun _ _ _ h=>h.elim) ?_ ?_ ?_ ?_
   ·intro l x W1
    clear H
    have H:=St.start nT W1
    refine y_region (rX (fun _=>trivial) (fun c h=>by cases h) (wn U) U (as_s U U) ?_)
    refine ry_nil (y_nil (round_a ?_))
    exact ⟨U,H.under⟩
   ·rintro l_ pre x ⟨A2,c2⟩ W1 T1 hC hlen hpast H
    replace H:St T1 W1 W1 [Fact.blk g3 [.slice A2 (upsH l pre).length c2] 68,Fact.row 24 32 (.slice A2 (upsH l pre).length c2) (upsH l pre).length (hsC (upsH l pre)),Fact.blk g2 (List.replicate 32 (u8v 0)) 24]:=H
    obtain ⟨hc,hd⟩:=hC
    dsimp only at hc hd
    have hx:=x.2
    have hul:(upsH l pre).length<=1000000:=by have e:(upsH l pre).length=pre.length:=(by simp [upsH]);omega
    have hrw:∀W2,Fr T1 W1 W2->Rd W2 S 32 (some ⟨g0,o0,none⟩) l.length (hsC l):=fun W2 h=>hr.keep (fun g hg _=>(hpast W2 h).block g hg)
    have hbw:∀W2,Fr T1 W1 W2->Old.Gl W2:=fun W2 h=>hB.below (hpast W2 h) (Nat.le_refl _)
    refine y_block (y_seq (y_seq (y_region (rX (fun _=>trivial) (fun c h=>by cases h) (wn U) U (mv_s U U) ?_))))
    refine rX (fun _=>trivial) (fun c h=>by cases h) (wn U) U (d_len U U tu68) ?_
    refine rX (fun _=>trivial) (fun c h=>by cases h) (wn U) U (d_eq U U U) ?_
    refine ry_nil (y_cond U (fun hc20=>?_) (fun hc20=>?_))
    ·have h2:2*x.1+1<l.length:=by simp at hc20;omega
     refine y_draw [(0,true),(1,true),(2,true),(3,true),(4,true),(5,true),(6,false),(7,false),(8,false),(9,false),(10,true)] _ (by kernel_rfl) (by kernel_rfl) (by rfl) (fun ⟨_,_,h⟩=>(h:False)) H (.refl _) ?_
     clear H;intro W H
     refine cMs U U (cR U (fun W H=>dG (q:=0) U (rd_chunk (hrw _ H.fr) x) U U U (by omega) tu68 ts24) (cR U (fun W H=>d_arrA U U tu24 ts5) (cMs U U (cR U (fun W H=>dG (q:=1) U (rd_chunk (hrw _ H.fr) x) U U U (by omega) tu68 ts24) (cR U (fun W H=>d_arrA U U tu24 ts5) (cf U (ebs (xs:=[.tmp 23,.tmp 26]) (vals:=[.slice _ _ _,.slice _ _ _]) (vs:=[.slice _ _ _,.slice _ _ _]) U U U U tu62 ts41 ty41 U U U H ?_)))))))
     clear H;intro g10_6 W H
     refine ⟨H.sb,?_⟩
     refine cf U (eN Tryz.func103 U U (concat2 (l:=(l.getD (2*x.1) z32H).1) (r:=(l.getD (2*x.1+1) z32H).1) _ (rd_blk (m:=2) H.blk U) (rd_elem (rd_chunk (hrw _ H.fr) x) (i:=0) (by omega) (chunk_0 x) (len_h _) U) (rd_elem (rd_chunk (hrw _ H.fr) x) (i:=1) (by omega) (chunk_1 h2) (len_h _) U) (by decide)) H ?_)
     clear H;intro A4 c4 W hc4 hd4 H
     refine ⟨H.sb,?_⟩
     refine cf U (eI Tryz.func38 U U (taggedB (s:=tNodeB) _ (hbw _ H.fr) (H.rowbs (A:=A4) (l:=(l.getD (2*x.1) z32H).1++(l.getD (2*x.1+1) z32H).1) U) (by decide) (by rw [List.length_append,len_v,len_v];decide)) H ?_)
     clear H;intro W H
     refine ⟨H.sb,?_⟩
     rw [←upH_two h2]
     refine cf U (ebs (xs:=[.tmp 29]) (vals:=[.agg (((upH l x.1).1.map u8v)).toArray]) (vs:=((upH l x.1).1.map u8v)) U U U U tu68 ts24 ty24 U (by simp [agg_cells,(upH l x.1).2]) (by simp [agg_cells]) H ?_)
     clear H;intro gn W H
     refine ⟨H.sb,?_⟩
     refine cAs U U (c_nil (y_cut 31 [] (fun sl W=>∃A1:Option Addr,∃c1:Nat,sl=[]∧((upsH l (pre++[x])).length<=c1)∧(c1<=9223372036854775807)∧St T1 W1 W [Fact.blk g3 [.slice A1 (upsH l (pre++[x])).length c1] 68,Fact.row 24 32 (.slice A1 (upsH l (pre++[x])).length c1) (upsH l (pre++[x])).length (hsC (upsH l (pre++[x]))),Fact.blk g2 (List.replicate 32 (u8v 0)) 24]) ?_ (fun sl ρv W hJ=>?_)))
     ·skip
      refine y_drawT (.rd 1 (.rd 2 (.rd 3 (.many 3 [0,4] fun j=>(bif Nat.beq j 0 then (.ef 4 (.ef 5 (.ef 6 .nil))) else (.ef 0 (.ef 5 (.ef 6 .nil)))))))) [Fact.blk gn ((upH l x.1).1.map u8v) 24] (by kernel_rfl) (by kernel_rfl) (by rfl) (fun ⟨_,_,h⟩=>(h:False)) H (by repeat (first|exact .refl _|exact List.nil_sublist _|refine .cons_cons _ ?_|refine .cons _ ?_)) ?_
      clear H;intro W H
      refine tR U (fun W H=>mv_s U U) (tR U (fun W H=>dG (q:=0) U (rd_blk (m:=1) (H.blk (g:=gn)) (len_h _)) U U U (by omega) tu68 ts24) (tR U (fun W H=>dN (off:=0) (j:=32) (q:=0) U (rd_blk (m:=1) (H.blk (g:=gn)) (len_h (upH l x.1))) (by omega) (sub_00 (len_h (upH l x.1))) (sa (len_h (upH l x.1))) U U (by omega) ta24 ts24) (t_each ?_ ?_)))
      ·skip
       refine tf U (e_run (wn U) U (d_ld U H U ta68 U) ?_)
       refine ⟨_,fun _ h=>h,H.sb,?_⟩
       refine tf U (ebs (xs:=[.tmp 34]) (vals:=[.agg (((upH l x.1).1.map u8v)).toArray]) (vs:=((upH l x.1).1.map u8v)) U U U U tu68 ts24 ty24 U (by simp [agg_cells,(upH l x.1).2]) (by simp [agg_cells]) H ?_)
       clear H;intro g11_4 W H
       refine ⟨_,fun _ h=>h,H.sb,?_⟩
       refine tf U (eap tu68 tx24 U U U H (rd_blk (m:=1) H.blk (len_h _)) (all_u8L _) (by omega) U ?_)
       clear H;intro A1 c1 W hc1 hd1 H
       replace H:=H.drop
       refine ⟨_,fun _ h=>h,H.sb,?_⟩
       refine tf U (e_sto (wn U) U U U U U ts68 U H U ?_)
       clear H;intro W H
       refine ⟨_,fun _ h=>h,H.sb,?_⟩
       refine t_nil (y_nil (n_then ?_))
       have e1:(upsH l (pre++[x])).length=(upsH l pre).length+1:=by rw [ups_snoc];simp
       have H9:St T1 W1 W [Fact.blk g3 [.slice A1 (upsH l (pre++[x])).length c1] 68,Fact.row 24 32 (.slice A1 (upsH l (pre++[x])).length c1) (upsH l (pre++[x])).length (hsC (upsH l (pre++[x]))),Fact.blk g2 (List.replicate 32 (u8v 0)) 24]:=by
        rw [e1,ups_snoc,hs_snoc]
        exact H.sub (L':=[_,_,_]) (by repeat (first|exact .refl _|exact List.nil_sublist _|refine .cons_cons _ ?_|refine .cons _ ?_))
       refine ⟨_,_,U,?_,?_,⟨A1,c1,U,(by rw [e1];exact hc1),hd1,H9⟩⟩
       ·with_reducible repeat first|exact .refl|refine .f ?_ ?_ ?_;kernel_rfl;kernel_rfl|refine .u ?_ ?_;kernel_rfl
       ·exact trivial
      refine t_each ?_ ?_
      ·skip
       refine tf U (ebs (xs:=[.tmp 34]) (vals:=[.agg (((upH l x.1).1.map u8v)).toArray]) (vs:=((upH l x.1).1.map u8v)) U U U U tu68 ts24 ty24 U (by simp [agg_cells,(upH l x.1).2]) (by simp [agg_cells]) H ?_)
       clear H;intro g11_4 W H
       refine ⟨_,fun _ h=>h,H.sb,?_⟩
       refine tf U (e_run (wn U) U (d_ld U H U ta68 U) ?_)
       refine ⟨_,fun _ h=>h,H.sb,?_⟩
       refine tf U (eap tu68 tx24 U U U H (rd_blk (m:=1) H.blk (len_h _)) (all_u8L _) (by omega) U ?_)
       clear H;intro A1 c1 W hc1 hd1 H
       replace H:=H.drop
       refine ⟨_,fun _ h=>h,H.sb,?_⟩
       refine tf U (e_sto (wn U) U U U U U ts68 U H U ?_)
       clear H;intro W H
       refine ⟨_,fun _ h=>h,H.sb,?_⟩
       refine t_nil (y_nil (n_then ?_))
       have e1:(upsH l (pre++[x])).length=(upsH l pre).length+1:=by rw [ups_snoc];simp
       have H9:St T1 W1 W [Fact.blk g3 [.slice A1 (upsH l (pre++[x])).length c1] 68,Fact.row 24 32 (.slice A1 (upsH l (pre++[x])).length c1) (upsH l (pre++[x])).length (hsC (upsH l (pre++[x]))),Fact.blk g2 (List.replicate 32 (u8v 0)) 24]:=by
        rw [e1,ups_snoc,hs_snoc]
        exact H.sub (L':=[_,_,_]) (by repeat (first|exact .refl _|exact List.nil_sublist _|refine .cons_cons _ ?_|refine .cons _ ?_))
       refine ⟨_,_,U,?_,?_,⟨A1,c1,U,(by rw [e1];exact hc1),hd1,H9⟩⟩
       ·with_reducible repeat first|exact .refl|refine .f ?_ ?_ ?_;kernel_rfl;kernel_rfl|refine .u ?_ ?_;kernel_rfl
       ·exact trivial
      exact t_none
     clear H;obtain ⟨A1,c1,rfl,hc1,hd1,H⟩:=hJ
     refine y_nil (yb_end (y_nil (round_n ?_)))
     exact ⟨(A1,c1),⟨hc1,hd1⟩,H⟩
    ·have h2:¬2*x.1+1<l.length:=by simp at hc20;omega
     refine y_skip (y_cut 31 [] (fun sl W=>∃A1:Option Addr,∃c1:Nat,sl=[]∧((upsH l (pre++[x])).length<=c1)∧(c1<=9223372036854775807)∧St T1 W1 W [Fact.blk g3 [.slice A1 (upsH l (pre++[x])).length c1] 68,Fact.row 24 32 (.slice A1 (upsH l (pre++[x])).length c1) (upsH l (pre++[x])).length (hsC (upsH l (pre++[x]))),Fact.blk g2 (List.replicate 32 (u8v 0)) 24]) ?_ (fun sl ρv W hJ=>?_))
     ·skip
      refine y_drawT (.rd 1 (.rd 2 (.rd 3 (.many 3 [0,4] fun j=>(bif Nat.beq j 0 then (.ef 4 (.ef 5 (.ef 6 .nil))) else (.ef 0 (.ef 5 (.ef 6 .nil)))))))) [] (by kernel_rfl) (by kernel_rfl) (by rfl) (fun ⟨_,_,h⟩=>(h:False)) H (List.nil_sublist _) ?_
      clear H;intro W H
      refine tR U (fun W H=>mv_s U U) (tR U (fun W H=>dG (q:=0) U (rd_chunk (hrw _ H.fr) x) U U U (by omega) tu68 ts24) (tR U (fun W H=>dN (off:=0) (j:=32) (q:=0) (cs:=((upH l x.1).1.map u8v)) U (rd_chunk (hrw _ H.fr) x) (by omega) (chunk_0 x) (by rw [upH_one h2];exact sa (len_h _)) U U (by omega) ta24 ts24) ?_))
      refine t_each ?_ ?_
      ·skip
       refine tf U (e_run (wn U) U (d_ld U H U ta68 U) ?_)
       refine ⟨_,fun _ h=>h,H.sb,?_⟩
       refine tf U (ebs (xs:=[.tmp 34]) (vals:=[.agg (((upH l x.1).1.map u8v)).toArray]) (vs:=((upH l x.1).1.map u8v)) U U U U tu68 ts24 ty24 U (by simp [agg_cells,(upH l x.1).2]) (by simp [agg_cells]) H ?_)
       clear H;intro g11_4 W H
       refine ⟨_,fun _ h=>h,H.sb,?_⟩
       refine tf U (eap tu68 tx24 U U U H (rd_blk (m:=1) H.blk (len_h _)) (all_u8L _) (by omega) U ?_)
       clear H;intro A1 c1 W hc1 hd1 H
       replace H:=H.drop
       refine ⟨_,fun _ h=>h,H.sb,?_⟩
       refine tf U (e_sto (wn U) U U U U U ts68 U H U ?_)
       clear H;intro W H
       refine ⟨_,fun _ h=>h,H.sb,?_⟩
       refine t_nil (y_nil (n_then ?_))
       have e1:(upsH l (pre++[x])).length=(upsH l pre).length+1:=by rw [ups_snoc];simp
       have H9:St T1 W1 W [Fact.blk g3 [.slice A1 (upsH l (pre++[x])).length c1] 68,Fact.row 24 32 (.slice A1 (upsH l (pre++[x])).length c1) (upsH l (pre++[x])).length (hsC (upsH l (pre++[x]))),Fact.blk g2 (List.replicate 32 (u8v 0)) 24]:=by
        rw [e1,ups_snoc,hs_snoc]
        exact H.sub (L':=[_,_,_]) (by repeat (first|exact .refl _|exact List.nil_sublist _|refine .cons_cons _ ?_|refine .cons _ ?_))
       refine ⟨_,_,U,?_,?_,⟨A1,c1,U,(by rw [e1];exact hc1),hd1,H9⟩⟩
       ·with_reducible repeat first|exact .refl|refine .f ?_ ?_ ?_;kernel_rfl;kernel_rfl|refine .u ?_ ?_;kernel_rfl
       ·exact trivial
      refine t_each ?_ ?_
      ·skip
       refine tf U (ebs (xs:=[.tmp 34]) (vals:=[.agg (((upH l x.1).1.map u8v)).toArray]) (vs:=((upH l x.1).1.map u8v)) U U U U tu68 ts24 ty24 U (by simp [agg_cells,(upH l x.1).2]) (by simp [agg_cells]) H ?_)
       clear H;intro g11_4 W H
       refine ⟨_,fun _ h=>h,H.sb,?_⟩
       refine tf U (e_run (wn U) U (d_ld U H U ta68 U) ?_)
       refine ⟨_,fun _ h=>h,H.sb,?_⟩
       refine tf U (eap tu68 tx24 U U U H (rd_blk (m:=1) H.blk (len_h _)) (all_u8L _) (by omega) U ?_)
       clear H;intro A1 c1 W hc1 hd1 H
       replace H:=H.drop
       refine ⟨_,fun _ h=>h,H.sb,?_⟩
       refine tf U (e_sto (wn U) U U U U U ts68 U H U ?_)
       clear H;intro W H
       refine ⟨_,fun _ h=>h,H.sb,?_⟩
       refine t_nil (y_nil (n_then ?_))
       have e1:(upsH l (pre++[x])).length=(upsH l pre).length+1:=by rw [ups_snoc];simp
       have H9:St T1 W1 W [Fact.blk g3 [.slice A1 (upsH l (pre++[x])).length c1] 68,Fact.row 24 32 (.slice A1 (upsH l (pre++[x])).length c1) (upsH l (pre++[x])).length (hsC (upsH l (pre++[x]))),Fact.blk g2 (List.replicate 32 (u8v 0)) 24]:=by
        rw [e1,ups_snoc,hs_snoc]
        exact H.sub (L':=[_,_,_]) (by repeat (first|exact .refl _|exact List.nil_sublist _|refine .cons_cons _ ?_|refine .cons _ ?_))
       refine ⟨_,_,U,?_,?_,⟨A1,c1,U,(by rw [e1];exact hc1),hd1,H9⟩⟩
       ·with_reducible repeat first|exact .refl|refine .f ?_ ?_ ?_;kernel_rfl;kernel_rfl|refine .u ?_ ?_;kernel_rfl
       ·exact trivial
      exact t_none
     clear H;obtain ⟨A1,c1,rfl,hc1,hd1,H⟩:=hJ
     refine y_nil (yb_end (y_nil (round_n ?_)))
     exact ⟨(A1,c1),⟨hc1,hd1⟩,H⟩
   ·rintro D xs ⟨A2,c2⟩ W hS ⟨hc,hd⟩ H
    rw [ups_all hS] at hc
    dsimp only at hc hd
    replace H:St nT w W (Fact.obj D (.deferred (some []))::[Fact.blk g3 [.slice A2 (upsH l xs).length c2] 68,Fact.row 24 32 (.slice A2 (upsH l xs).length c2) (upsH l xs).length (hsC (upsH l xs)),Fact.blk g2 (List.replicate 32 (u8v 0)) 24]):=H
    rw [ups_all hS] at H
    have hlp:=len_pairsH l
    refine kn (zE (kR (sR (d_ld U H U ta68 U) (sf (eI Tryz.func51 U U (ih (pairsH l).length (by omega) _ U (H.gl hB) (H.rowrd (A:=A2)) hc (by omega)) H ?_)))))
    clear H;intro W H
    refine sf (esk ((Bk.root BTG ((pairsH l).map (fun h:H32=>h.1))).map u8v) U U U ts24 (by rw [List.length_map];exact len_root _) (all_u8L _) H (by decide) (spl_all (by rw [List.length_map,List.length_replicate];exact len_root _)) ?_)
    clear H;intro W H
    refine ln (kx ?_)
    rw [root_pairsH (by omega)]
    refine q_M1 H (fun W H=>?_)
    exact q_retc U (c:=(Bk.root BTG ((pairsH l).map (fun h:H32=>h.1))).map u8v) (g:=g2) H U ta24 (by rw [List.length_map,len_root];exact ts24) ⟨_,U,U,H.under⟩
   ·exact fun _ _ _ _ _ h=>h.elim

def rootB (l:List DTx):List UInt8:=Bk.root BTG ((l.map digA).map (·.1))
theorem len_rootB (l:List DTx):(rootB l).length=32:=len_root _

theorem rootP {S:Nat->Prop} {A:Option Addr} {c:Nat} {l:List DTx} (w:World) (hl:RL 3 RTx w S [.slice A l.length c] l) (hG:Gat w 0 formsC) (hB:Old.Gl w) (hn:l.length<=1000000):Calls Tryz.prog 20 [.slice A l.length c].toArray w (Ret (Is w (.agg ((rootB l).map u8v).toArray))):=by
 refine kE (l:=[_]) Tryz.func20 U U ?_
 have H:=St.start nT w
 refine kR (sf (eal (List.replicate 32 (u8v 0)) tz24 H ?_))
 clear H;intro g2 W H
 refine lkR (sMs U (sf (ecl Tryz.func50 U U (idsP _) ?_)))
 rintro _ W ⟨q,rfl,hn1⟩
 replace H:=H.new hn1
 clear hn1
 refine sf (ecl Tryz.func52 U U (collectH (l:=l.map digA) _ (fun W2 hb=>ids_stops (K0:=fun _=>False) _ W2 hb ((gatb (H.blk (g:=q))).keep hb) (.inr (blk_lt (H.blk (g:=q)))) (fun _ h=>h.elim) (keeps_L keeps_Tx _ _ _ _ _ hl (fun g hg _=>H.fr.block g hg (fun h=>h))) (H.gat hG) (H.gl hB)) hn) ?_)
 rintro _ W ⟨A1,c1,rfl,hc1,hd1,hn1⟩
 replace H:=H.new hn1
 clear hn1
 refine sf (eI Tryz.func51 U U (rootN _ (l:=l.map digA) _ U (H.gl hB) (H.rowrd (A:=A1)) hc1 (by rw [List.length_map];exact hn)) H ?_)
 clear H;intro W H
 refine sf (esk ((rootB l).map u8v) U U U ts24 (by rw [List.length_map];exact len_rootB _) (all_u8L _) H (by decide) (spl_all (by rw [List.length_map,List.length_replicate];exact len_rootB _)) ?_)
 clear H;intro W H
 refine ln (kx ?_)
 exact q_retc U (c:=(rootB l).map u8v) (g:=g2) H U ta24 (by rw [List.length_map,len_rootB];exact ts24) ⟨_,U,U,H.under⟩

def tBlockB:ByteArray:=⟨#[98,108,111,99,107]⟩
theorem len_encH {h:DHeader} (hh:Bk.OkH h):(Bk.encH h).length<=73:=by
 have:=Pk.len_int (Pk.toU h.nonce)
 unfold Bk.encH
 rw [List.length_append,List.length_append,hh.1,hh.2.1]
 omega
def nP:DPoint:=⟨3::List.replicate 31 0,0⟩
def nthT (i:Int):DTx:=⟨[⟨nP,[]⟩],[⟨1+i,[]⟩],0⟩

theorem headP {h:DHeader} (w:World) (hG:Gat w 0 formsC) (hh:Bk.OkH h):Calls Tryz.prog 40 [.agg (hdrC h).toArray].toArray w (Ret (NewB 5 w (Bk.encH h))):=by
 refine kE (l:=[_]) Tryz.func40 U U ?_
 have H:=St.start nT w
 have hq1:=Pk.len_int (Pk.toU h.nonce)
 refine kR (sf (ebx (vs:=(hdrC h)) U U H ?_))
 clear H;intro gh W H
 refine sAs U (ln (kQ (k_draw [(0,true),(1,true),(3,true),(4,true),(6,true),(7,true),(2,false),(5,false),(8,false),(9,true)] [Fact.blk gh (hdrC h) 26] (by kernel_rfl) (by kernel_rfl) H (.refl _) ?_)))
 clear H;intro W H
 refine cFa U U tf26_0 (cR U (fun W H=>dM (g:=gh) (off:=0) U H (sub_h_prev hh) (by rw [List.length_map];first|exact hh.1|exact hh.2.1) U U U ta24 ts24) ?_)
 refine cFa U U tf26_1 (cR U (fun W H=>dM (g:=gh) (off:=32) U H (sub_h_root hh) (by rw [List.length_map];first|exact hh.1|exact hh.2.1) U U U ta24 ts24) ?_)
 refine cFa U U tf26_2 (cR U (fun W H=>dX (g:=gh) (off:=64) U H (sub_h_nonce hh) U U ta3) (cf U (eN Tryz.func83 U U (packHash (b:=[]) (h:=h.prev) _ (Bs.nil (S:=nT)) (by decide) hh.1) H ?_)))
 clear H;intro A1 c1 W hc1 hd1 H
 refine ⟨H.sb,?_⟩
 refine cf U (eN Tryz.func83 U U (packHash (b:=[]++h.prev) (h:=h.root) _ (H.rowbs (A:=A1) U) (by rw [List.length_append,hh.1];decide) hh.2.1) H ?_)
 clear H;intro A2 c2 W hc2 hd2 H
 refine ⟨H.sb,?_⟩
 refine cf U (eN Tryz.func37 U U (packInt (b:=[]++h.prev++h.root) h.nonce _ (H.gat hG) (H.rowbs (A:=A2) U) hh.2.2 (by rw [List.length_append,List.length_append,hh.1,hh.2.1];decide)) H ?_)
 clear H;intro A3 c3 W hc3 hd3 H
 refine ⟨H.sb,?_⟩
 refine cAs U U (c_nil (kx ?_))
 rw [show []++h.prev++h.root++Pk.int (Pk.toU h.nonce)=Bk.encH h by unfold Bk.encH;rw [List.nil_append,List.append_assoc]] at hc3 H ⊢
 exact qr (v:=.slice _ _ _) U U ⟨_,U,H.newB U U hc3 hd3⟩

theorem idHP {h:DHeader} (w:World) (hG:Gat w 0 formsC) (hB:Old.Gl w) (hh:Bk.OkH h):Calls Tryz.prog 22 [.agg (hdrC h).toArray].toArray w (Ret (Is w (.agg ((Bk.idH BTG h).map u8v).toArray))):=by
 refine kE (l:=[_]) Tryz.func22 U U ?_
 have H:=St.start nT w
 refine kR (sf (ebx (vs:=(hdrC h)) U U H ?_))
 clear H;intro gh W H
 refine sf (eal (List.replicate 32 (u8v 0)) tz24 H ?_)
 clear H;intro g2 W H
 refine lkR (sR (dM (g:=gh) (off:=0) U H (sa (len_hdr hh)) (len_hdr hh) U U U ta26 ts26) (sf (eN Tryz.func40 U U (headP _ (H.gat hG) hh) H ?_)))
 clear H;intro A1 c1 W hc1 hd1 H
 refine sf (eI Tryz.func38 U U (taggedB (s:=tBlockB) _ (H.gl hB) (H.rowbs (A:=A1) (l:=Bk.encH h) U) (by decide) (by have:=len_encH hh;omega)) H ?_)
 clear H;intro W H
 refine sf (esk ((Old.Bl.tagged tBlockB.data.toList (Bk.encH h)).map u8v) U U U ts24 (by rw [List.length_map];exact Old.Bl.len_tagged _ _) (all_u8L _) H (by decide) (spl_all (by rw [List.length_map,List.length_replicate];exact Old.Bl.len_tagged _ _)) ?_)
 clear H;intro W H
 refine ln (kx ?_)
 exact q_retc U (c:=(Old.Bl.tagged tBlockB.data.toList (Bk.encH h)).map u8v) (g:=g2) H U ta24 (by rw [List.length_map,Old.Bl.len_tagged];exact ts24) ⟨_,U,U,H.under⟩

theorem nthP (i:Int) (w:World) (hi:0<=i∧i<=1000000):Calls Tryz.prog 8 [.int .i64 i].toArray w (Ret (NewTx w (nthT i))):=by
 refine kE (l:=[_]) Tryz.func8 U U ?_
 have H:=St.start nT w
 refine kR (sf (eal [.slice none 0 0,.slice none 0 0,.int .i64 0] tz34 H ?_))
 clear H;intro go W H
 refine lkR (sR (dB (vs:=nP.tx.map u8v) U (by kernel_rfl)) ?_)
 refine sR (dB (vs:=pointC nP) U (built_fields (places:=[(0,32),(32,1)]) tz61 (by kernel_rfl) (by kernel_rfl) (fN (vs:=nP.tx.map u8v) (.agg (nP.tx.map u8v).toArray) U U U U (Nat.le_of_ble_eq_true U) (fill_end (by rfl))))) ?_
 refine sR (dB (vs:=inC nP none 0 0) U (built_fields (places:=[(0,33),(33,1)]) tz64 (by kernel_rfl) (by kernel_rfl) (fN (vs:=pointC nP) (.agg (pointC nP).toArray) U U U U (Nat.le_of_ble_eq_true U) (fill_end (by rfl))))) ?_
 refine sf (ebs (xs:=[.tmp 5]) (vals:=[.agg (inC nP none 0 0).toArray]) (vs:=(inC nP none 0 0)) U U U U tu31 ts64 ty64 U (by simp [agg_cells,len_in (p:=nP) U]) (by simp [agg_cells]) H ?_)
 clear H;intro g1 W H
 replace H:=(((H.torow (s:=34) 1 (by rw [len_in (p:=nP) rfl]) (by decide)).els0 RIn 34).flat (R:=RIn) (cs:=inC nP none 0 0) (a:=⟨nP,[]⟩) (in_rep (w:=[]) rfl ⟨by decide,by decide⟩ rl_nil))
 replace H:=St.elsnoc H (len_in (p:=nP) rfl)
 refine sMi U (sAd U U (by omega) (sR (dB (vs:=outC (1+i) none 0 0) U (built_fields (places:=[(0,1),(1,1)]) tz66 (by kernel_rfl) (by kernel_rfl) (fN (vs:=[.int .i64 (1+i)]) (.int .i64 (1+i)) U U U U (Nat.le_of_ble_eq_true U) (fill_end (by rfl))))) ?_))
 refine sf (ebs (xs:=[.tmp 9]) (vals:=[.agg (outC (1+i) none 0 0).toArray]) (vs:=(outC (1+i) none 0 0)) U U U U tu32 ts66 ty66 U (by simp [agg_cells,outC]) (by simp [agg_cells]) H ?_)
 clear H;intro g2 W H
 replace H:=(((H.torow (s:=2) 1 rfl (by decide)).els0 ROut 2).flat (R:=ROut) (cs:=outC (1+i) none 0 0) (a:=⟨1+i,[]⟩) (out_rep (s:=[]) ⟨by omega,by omega⟩ Bs.nil))
 replace H:=St.elsnoc H rfl
 refine sR (dB (vs:=txC (some ⟨g1,0,none⟩) 1 1 (some ⟨g2,0,none⟩) 1 1 0) U (built_fields (places:=[(0,1),(1,1),(2,1)]) tz34 (by kernel_rfl) (by kernel_rfl) (fN (vs:=[.slice (some ⟨g1,0,none⟩) 1 1]) (.slice (some ⟨g1,0,none⟩) 1 1) U U U U (Nat.le_of_ble_eq_true U) (fN (vs:=[.slice (some ⟨g2,0,none⟩) 1 1]) (.slice (some ⟨g2,0,none⟩) 1 1) U (by rfl) U U (Nat.le_of_ble_eq_true U) (fill_end (by rfl)))))) ?_
 refine sf (e_sto (wn U) U U U U U ts34 U H U ?_)
 clear H;intro W H
 refine ln (kx ?_)
 refine q_retc U (c:=txC (some ⟨g1,0,none⟩) 1 1 (some ⟨g2,0,none⟩) 1 1 0) (g:=go) H U ta34 ts34 ⟨_,U,some ⟨g1,0,none⟩,1,some ⟨g2,0,none⟩,1,inC nP none 0 0,outC (1+i) none 0 0,(fun _=>False∨False),(fun _=>False∨False),U,⟨by show 1<=1;decide,by decide⟩,⟨by show 1<=1;decide,by decide⟩,?_⟩
 exact (H.sub (L':=[_,_,_,_]) (by repeat (first|exact .refl _|exact List.nil_sublist _|refine .cons_cons _ ?_|refine .cons _ ?_))).perm (.trans (List.perm_append_comm (l₁:=[_,_]) (l₂:=[_,_])) (.trans (.swap _ _ _) (.cons _ (.cons _ (.swap _ _ _)))))

theorem nodeP (a b:H32) (w:World) (hB:Old.Gl w):Calls Tryz.prog 36 [.agg (a.1.map u8v).toArray,.agg (b.1.map u8v).toArray].toArray w (Ret (Is w (.agg ((BTG Bk.tNode (a.1++b.1)).map u8v).toArray))):=by
 refine kE (l:=[_,_]) Tryz.func36 U U ?_
 have H:=St.start nT w
 have ha:=a.2
 have hbl:=b.2
 refine kR (sf (ebx (vs:=(a.1.map u8v)) U U H ?_))
 clear H;intro ga W H
 refine sf (ebx (vs:=(b.1.map u8v)) U U H ?_)
 clear H;intro gb W H
 refine sf (eal (List.replicate 32 (u8v 0)) tz24 H ?_)
 clear H;intro g2 W H
 refine ln (kQ (k_draw [(0,true),(2,true),(1,false),(3,false),(4,false),(5,false)] [Fact.blk gb (b.1.map u8v) 24,Fact.blk ga (a.1.map u8v) 24] (by kernel_rfl) (by kernel_rfl) H (.cons _ (.refl _)) ?_))
 clear H;intro W H
 refine cR U (fun W H=>d_arrA U U tu24 ts5) (cR U (fun W H=>d_arrA U U tu24 ts5) (cf U (eN Tryz.func13 U U (copyBytes _ a.1 _ (Bs.mk (rd_blk (m:=32) (H.blk (g:=ga)) (len_h a)) (by decide) (by decide)) (by omega)) H ?_)))
 clear H;intro A1 c1 W hc1 hd1 H
 refine ⟨H.sb,?_⟩
 refine cf U (eap tu41 tx5 U U U H (rd_blk (m:=32) (H.blk (g:=gb)) (len_h b)) (all_u8L _) (by omega) U ?_)
 clear H;intro A2 c2 W hc2 hd2 H
 refine ⟨H.sb,?_⟩
 rw [←List.map_append] at H
 refine cf U (eI Tryz.func38 U U (taggedB (s:=tNodeB) _ (H.gl hB) (H.rowbs (A:=A2) (l:=a.1++b.1) (by rw [List.length_append,ha,hbl])) (by decide) (by rw [List.length_append,ha,hbl];decide)) H ?_)
 clear H;intro W H
 refine ⟨H.sb,?_⟩
 refine cf U (esk ((Old.Bl.tagged tNodeB.data.toList (a.1++b.1)).map u8v) U U U ts24 (by rw [List.length_map];exact Old.Bl.len_tagged _ _) (all_u8L _) H (by decide) (spl_all (by rw [List.length_map,List.length_replicate];exact Old.Bl.len_tagged _ _)) ?_)
 clear H;intro W H
 refine ⟨H.sb,?_⟩
 refine c_nil (kx ?_)
 exact q_retc U (c:=(Old.Bl.tagged tNodeB.data.toList (a.1++b.1)).map u8v) (g:=g2) H U ta24 (by rw [List.length_map,Old.Bl.len_tagged];exact ts24) ⟨_,U,U,H.under⟩
end Go.Proofs.YtfhhfhdnhadooaaGreatDoor
