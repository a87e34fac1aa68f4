import Derived.Test.YtjjodibkmeefpaaGreatDoorMX
import Derived.Test.YtjjodibkmeefpaaGreatDoorMV
import Derived.RangeFuncNested
import Derived.Sort.LoopGhostIn
set_option linter.unusedVariables false
set_option linter.unusedSimpArgs false

namespace Go.Proofs.YtjjodibkmeefpaaGreatDoor
open Go Go.RowKit

namespace Bk
abbrev z32:List UInt8:=List.replicate 32 0
abbrev Dig:=List UInt8->List UInt8->List UInt8
def tTx:List UInt8:=[116,120]
def tSign:List UInt8:=[115,105,103,110]
def tNode:List UInt8:=[110,111,100,101]
def tBlock:List UInt8:=[98,108,111,99,107]
section
variable (TG:Dig)
def tagged (tag:List UInt8) (t:DTx):List UInt8:=if Tx.chk t=0 then TG tag (Tx.bareB t) else z32
def pairs:List (List UInt8)->List (List UInt8)
 | a::b::l=>TG tNode (a++b)::pairs l
 | l=>l
def rootN:Nat->List (List UInt8)->List UInt8
 | 0,_=>z32
 | _+1,[]=>z32
 | _+1,[a]=>a
 | n+1,l=>rootN n (pairs TG l)
def root (l:List (List UInt8)):List UInt8:=rootN TG (l.length+1) l
def rootTx (l:List DTx):List UInt8:=root TG (l.map (tagged TG tTx))
def twice:List (List UInt8)->Bool
 | []=>false
 | x::l=>l.any (· == x) || twice l
def firstErr:List DTx->Int
 | []=>0
 | t::l=>if Tx.chk t≠0 then Tx.chk t else firstErr l
def encH (h:DHeader):List UInt8:=h.prev++(h.root++Pk.int (Pk.toU h.nonce))
def idH (h:DHeader):List UInt8:=TG tBlock (encH h)
def chk (b:DBlock):Int :=
 if b.header.nonce<0∨1073741824<b.header.nonce then 1 else if 16<b.txs.length then 3 else if firstErr b.txs≠0 then firstErr b.txs
 else if twice (b.txs.map (tagged TG tTx))=true then 13 else if (rootTx TG b.txs == b.header.root)=false then 6 else 0
def encT (t:DTx):List UInt8:=Pk.blob (Tx.putB t)
def putB (b:DBlock):List UInt8:=encH b.header++encL encT b.txs
def put (b:DBlock):List UInt8 × Int:=if chk TG b≠0 then ([],chk TG b) else (putB b,0)
abbrev rI:Rdr Int:=rMap Pk.rInt (fun n=>(n:Int))
def rHdr:Rdr DHeader:=rMap (rPair (Pk.rBytes 32) (rPair (Pk.rBytes 32) rI)) (fun x=>⟨x.1,x.2.1,x.2.2⟩)
def rRaw:Rdr (DHeader × List (List UInt8)):=rPair rHdr (rList 16 (Pk.rB 16384))
def zero:DBlock:=⟨⟨z32,z32,0⟩,[]⟩
def getErr:List (List UInt8)->Int
 | []=>0
 | x::l=>if (Tx.get x).2≠0 then (Tx.get x).2 else getErr l
def fin (x:(DHeader × List (List UInt8)) × RS):DBlock × Int :=
 if Pk.rEnd x.2≠0 then (zero,Pk.rEnd x.2) else if getErr x.1.2≠0 then (zero,getErr x.1.2)
 else if chk TG ⟨x.1.1,x.1.2.map (fun y=>(Tx.get y).1)⟩≠0 then (zero,chk TG ⟨x.1.1,x.1.2.map (fun y=>(Tx.get y).1)⟩) else (⟨x.1.1,x.1.2.map (fun y=>(Tx.get y).1)⟩,0)
def get (b:List UInt8):DBlock × Int:=fin TG (rRaw (b,0))
end
def OkH (h:DHeader):Prop:=h.prev.length=32∧h.root.length=32∧I64 h.nonce
def Ok (b:DBlock):Prop:=OkH b.header∧∀t∈b.txs,Tx.Ok t
variable {TG:Dig}
end Bk
end Go.Proofs.YtjjodibkmeefpaaGreatDoor

namespace Go.Proofs.YtjjodibkmeefpaaGreatDoor
open Go Go.RowKit

namespace Bk
variable {TG:Dig}
end Bk
end Go.Proofs.YtjjodibkmeefpaaGreatDoor

namespace Go.Proofs.YtjjodibkmeefpaaGreatDoor
open Go Go.RowKit

deriving instance DecidableEq for DHeader
deriving instance DecidableEq for DBlock
def hdrC (h:DHeader):List Value:=h.prev.map u8v++(h.root.map u8v++[.int .i64 h.nonce])
def bC (h:DHeader) (A:Option Addr) (m c:Nat):List Value:=hdrC h++[.slice A m c]
section
variable {W:World} {S:Nat->Prop} {cs:List Value} {A:Option Addr} {m c:Nat} {x:DHeader} {b:DBlock}
theorem hdr_of (h:RHeader W S cs x):cs=hdrC x∧Bk.OkH x:=by
 obtain ⟨c0,c1,c2,rfl,⟨rfl,h0⟩,⟨rfl,h1⟩,⟨rfl,h2⟩⟩:=h
 exact ⟨rfl,h0,h1,h2⟩
theorem hdr_rep (h:Bk.OkH x):RHeader W S (hdrC x) x:=⟨_,_,_,rfl,⟨rfl,h.1⟩,⟨rfl,h.2.1⟩,rfl,h.2.2⟩
theorem blk_of (h:RBlock W S cs b):∃A c,cs=bC b.header A b.txs.length c∧RL 3 RTx W S [.slice A b.txs.length c] b.txs∧Bk.OkH b.header:=by
 obtain ⟨c0,c1,rfl,h0,h1⟩:=h
 obtain ⟨rfl,h2⟩:=hdr_of h0
 have h1':=h1
 obtain ⟨A,c,xs,rfl,_⟩:=h1
 exact ⟨A,c,rfl,h1',h2⟩
theorem blk_rep {l:List DTx} (h:Bk.OkH x) (hl:RL 3 RTx W S [.slice A l.length c] l):RBlock W S (bC x A l.length c) ⟨x,l⟩:=⟨_,_,rfl,hdr_rep h,hl⟩
theorem len_hdr (h:Bk.OkH x):(hdrC x).length=65:=by unfold hdrC;simp [h.1,h.2.1]
theorem lB (h:Bk.OkH x):(bC x A m c).length=66:=by unfold bC;rw [List.length_append,len_hdr h];rfl
theorem hdr_one:(hdrC x).all (·.oneCell')=true:=by unfold hdrC;simp [List.all_append,all_u8L,Value.oneCell']
theorem blk_one:(bC x A m c).all (·.oneCell')=true:=by unfold bC;rw [List.all_append,hdr_one];rfl
theorem sub_b_hdr (h:Bk.OkH x):sub (bC x A m c) 0 65=hdrC x:=sub_Block_0 (len_hdr h)
theorem sub_b_txs (h:Bk.OkH x):sub (bC x A m c) 65 1=[.slice A m c]:=sub_Block_1 (len_hdr h) rfl
end
def zHd:DHeader:=⟨List.replicate 32 0,List.replicate 32 0,0⟩
theorem zHd_ok:Bk.OkH zHd:=⟨List.length_replicate,List.length_replicate,by unfold zHd I64;constructor <;> decide⟩
end Go.Proofs.YtjjodibkmeefpaaGreatDoor

namespace Go.Proofs.YtjjodibkmeefpaaGreatDoor
open Go Go.RowKit

class WideF (F:Fence):Prop where
 fn:∀f,F.fn f
 dep:F.depth=none
 calls:∀{n:Nat} {P:Program} {f:FuncId} {args:Array Value} {w:World} {R:Ending->World->Prop},Calls P f args w R->CallsIn F n P f args w R
 rows:∀{n:Nat} {P:Program} {row:String} {args:Array Value} {w:World} {R:Value->World->Prop},Rows P row args w R->RowsIn F n P row args w R
instance :WideF Fence.wide:=⟨fun _=>trivial,rfl,fun h=>callsIn_wide.2 h,fun h c cs _=>let ⟨v,w',r,s⟩:=h c cs;⟨v,w',r,stepsIn_wide.2 s⟩⟩
theorem calls_round {l n:Nat} {P:Program} {f:FuncId} {args:Array Value} {w:World} {R:Ending->World->Prop} (h:CallsIn Fence.wide n P f args w R):CallsIn (Fence.wide.inRound l) n P f args w R:=h
theorem rows_round {l n:Nat} {P:Program} {row:String} {args:Array Value} {w:World} {R:Value->World->Prop} (h:RowsIn Fence.wide n P row args w R):RowsIn (Fence.wide.inRound l) n P row args w R:=h
instance {l:Nat}:WideF (Fence.wide.inRound l):=⟨fun _=>trivial,rfl,fun h=>calls_round (WideF.calls h),fun h=>rows_round (WideF.rows h)⟩
def noDefer (ops:List Oper):Bool:=ops.all fun o=>match o.op with
 | .defer _=>false
 | _=>true
theorem noDefer_of {ops:List Oper} {o:Oper} (h:noDefer ops=true) (ho:o∈ops):∀c,o.op≠.defer c:=fun c e=>by
 have:=List.all_eq_true.1 h o ho
 rw [e] at this
 cases this

section
variable {P:Program} {ops:Array Oper} {Q:Exit->Act->World->Prop} {rest:List Oper} {o:Oper} {n m l:Nat} {ρ:Nat->Value} {ds:List Deferred} {W W' w w0:World} {d:Tmp} {v:Value} {F:Fence} {T:Nat->Prop} {L:List Fact} {cs:List Code} {a:Act}
theorem wp_in [hw:WideF F] {K:Act->World->Prop} (hnd:∀c,o.op≠.defer c) (h:o.wp P a w K Q):o.wpIn F n P a w K Q:=by
 refine ⟨fun f _=>hw.fn f,?_⟩
 rw [Oper.semAt_eq _ _ _ hnd]
 unfold Oper.wp at h
 revert h
 generalize (execOp a.eval o).run P w=r
 intro h
 have hd:F.depth.isSome=true->1<=n:=fun e=>by rw [hw.dep] at e;cases e
 cases r with
 | ok x w' =>
  cases x with
  | value v=>exact h
  | skip=>exact h
  | defer d=>exact h
  | enter f args=>exact ⟨hd,hw.calls h⟩
  | row r args=>exact ⟨hd,hw.rows h⟩
  | _=>exact h.elim
 | halt e w' =>
  cases e with
  | panic v=>exact h
  | _=>exact h.elim
theorem r_eff [WideF F] (_hF:∀f,F.fn f) (hnd:∀c,o.op≠.defer c) (h:Step P ops Q o a W (wpListIn F m P ops Q rest)):wpListIn F m P ops Q (o::rest) a W:=by
 unfold wpListIn
 rw [if_pos h.1]
 exact wp_in hnd h.2
theorem ry_nil {next:Act->World->Prop} (h:next a W):wpListIn F m P ops (Exit.then next Q) [] a W:=wpListIn_nil h
theorem ops_in [hw':WideF F] (hL:¬LetsOut Q) (hnd:noDefer ops.toList=true):∀(il:List Nat) (a:Act) (w:World),wpOps P ops Q il a w->wpOpsIn F n P ops Q il a w
 | [],_,_,h=>h
 | i::rest,a,w,h=>by
  unfold wpOps at h
  unfold wpOpsIn
  cases hi:ops[i]? with
  | none=>rw [hi] at h;exact ops_in hL hnd rest a w h
  | some o =>
   rw [hi] at h
   simp only at h ⊢
   split at h
   ·rename_i hwt
    rw [if_pos hwt]
    rcases h with h|h
    ·have hm:o∈ops.toList:=by
      have:=List.mem_of_getElem? (l:=ops.toList) (i:=i) (by simpa using hi)
      exact this
     exact wp_in (noDefer_of hnd hm) (Oper.wp_mono (fun a' w' h'=>ops_in hL hnd rest a' w' h') h)
    ·exact absurd h.2 hL
   ·rename_i hwt
    rw [if_neg hwt]
    exact ⟨fun f _=>hw'.fn f,ops_in hL hnd rest _ w h⟩

def wpY (l:Nat) (P:Program) (Q:Exit->Act->World->Prop):List Code->Act->World->Prop
 | [],a,w=>Q .normal a w
 | c::cs,a,w=>c.wpIn (Fence.wide.inRound l) 1 P (Exit.then (wpY l P Q cs) Q) a w
theorem y_one {c:Code} (h:wpY l P Q [c] a w):c.wpIn (Fence.wide.inRound l) 1 P Q a w:=wpIn_mono h (fun e a w q=>by cases e <;> exact q)
theorem y_seq {x y:Code} (h:wpY l P Q (x::y::cs) a w):wpY l P Q (.seq x y::cs) a w :=
 wpIn_seq (wpIn_mono h (fun e a w q=>by cases e <;> exact q))
theorem y_skip (h:wpY l P Q cs a w):wpY l P Q (.skip::cs) a w:=wpIn_skip h
theorem y_ret (h:Q .ret a w):wpY l P Q (.ret::cs) a w:=wpIn_ret h
theorem y_exit {id:Nat} (h:Q (.exit id) a w):wpY l P Q (.exit id::cs) a w:=wpIn_exit h
theorem y_block {id:Nat} {c:Code} (h:wpY l P (Exit.inBlock id (Exit.then (wpY l P Q cs) Q)) [c] a w):wpY l P Q (.block id c::cs) a w :=
 wpIn_block (wpIn_mono h (fun e a w q=>by cases e <;> exact q))
theorem y_region {id:Nat} {ol:List Oper} (h:wpListIn (Fence.wide.inRound l) 1 P ol.toArray (Exit.then (wpY l P Q cs) Q) ol a w):wpY l P Q (.region id ol.toArray false::cs) a w:=wpIn_region_lit h
theorem y_cond {c:Operand} {x y:Code} {b:Bool} (hc:ev n ρ c=.bool b) (ht:b=true->wpY l P Q (x::cs) (st n ρ ds) w) (hf:b=false->wpY l P Q (y::cs) (st n ρ ds) w) :
  wpY l P Q (.cond c x y::cs) (st n ρ ds) w:=by
 rw [←st_eval (ds:=ds)] at hc
 exact wpIn_cond_split hc ht hf
theorem y_nil (h:Q .normal a w):wpY l P Q [] a w:=h
theorem yb_end {id:Nat} (h:wpY l P Q cs a w):Exit.inBlock id (Exit.then (wpY l P Q cs) Q) .normal a w:=h
theorem y_loop {c:Code} (lo:Nat) (M:List Nat) (J:Nat->List (Nat × Value)->World->Prop) (m:Nat) (sl:List (Nat × Value)) (h0:J m sl w) (hl:slotsOk ρ sl)
  (round:∀m sl ρv w,J m sl w->c.wpIn (Fence.wide.inRound l) 1 P (Exit.then (fun a' w'=>∃m' l' ρ',m'<m∧a'=st n ρ' ds∧Eqo lo M ρ ρ'∧slotsOk ρ' l'∧J m' l' w') (Exit.then (wpY l P Q cs) Q)) (st n (updl (ovr lo M ρ ρv) sl) ds) w):wpY l P Q (.loop c::cs) (st n ρ ds) w:=by
 refine wpIn_loop_ghost (fun m a w=>∃l' ρ',a=st n ρ' ds∧Eqo lo M ρ ρ'∧slotsOk ρ' l'∧J m l' w) m ⟨sl,ρ,rfl,Eqo.refl,hl,h0⟩ ?_
 rintro m a w ⟨l',ρ',rfl,hE,hs,hJ⟩
 have hr:=round m l' ρ' w hJ
 rw [←hE.frame l' hs.mem] at hr
 refine wpIn_mono hr (fun e a' w' q=>?_)
 cases e with
 | normal =>
  obtain ⟨m',l'',ρ'',h1,h2,h3,h4,h5⟩:=q
  exact ⟨m',h1,l'',ρ'',h2,h3,h4,h5⟩
 | exit id=>exact q
 | goto l=>exact q
 | ret=>exact q
 | panic ch=>exact q
 | outgrown=>exact q
theorem y_draw {id:Nat} {ol:List Oper} (order:List (Nat × Bool)) (Lc:List Fact) (hm:P.follows .mixedOrders=true) (hB:(Region.noSelect ol.toArray && (order.length == ol.length) && canB .any ol.toArray order (Array.replicate ol.toArray.size false))=true) (hnd:noDefer ol=true) (hL:¬LetsOut Q) (H:St T w0 w L) (hs:Lc.Sublist L)
  (k:∀W,St T w0 W L->wpC P ol.toArray (fun W=>St T w0 W Lc) (NoPan (Exit.then (wpY l P Q cs) Q)) order (st n ρ ds) W):wpY l P Q (.region id ol.toArray true::cs) (st n ρ ds) w:=by
 simp only [Bool.and_eq_true,beq_iff_eq] at hB
 obtain ⟨⟨h1,h2⟩,h3⟩:=hB
 have hN:(Code.region id ol.toArray true).wpIn (Fence.wide.inRound l) 1 P (NoPan (Exit.then (wpY l P Q cs) Q)) (st n ρ ds) w:=by
  refine wpIn_region_draw fun t=>ops_in (fun h=>?_) (by simpa using hnd) _ _ _ ?_
  ·obtain ⟨a,w,h⟩:=h
   exact hL ⟨a,w,h.2⟩
  ·simp only [Region.schedule,hm,Bool.true_or,if_true]
   refine wpAny_sound ol.toArray.size t _ _ _ (wpAny_of_held (S:=fun W=>St T w0 W Lc) _ _ _ _ ?_)
   have:=wpC_sound (P:=P) (md:=.any) (S:=fun W=>St T w0 W Lc) (Q:=NoPan (Exit.then (wpY l P Q cs) Q)) h1 (fun c a d v w h=>absurd rfl (h.1 c)) order (Array.replicate ol.toArray.size false) (st n ρ ds) w.drew h3 (H.drew.sub hs) (k _ H.drew)
   rw [h2] at this
   simpa using this
 exact wpIn_mono hN (fun _ _ _ h=>h.2)
theorem y_drawT {id:Nat} {ol:List Oper} (order:Tr) (Lc:List Fact) (hm:P.follows .mixedOrders=true) (hB:(Region.noSelect ol.toArray && (order.len == ol.length) && canT .any ol.toArray order (Array.replicate ol.toArray.size false))=true) (hnd:noDefer ol=true) (hL:¬LetsOut Q) (H:St T w0 w L) (hs:Lc.Sublist L)
  (k:∀W,St T w0 W L->wpT P ol.toArray (NoPan (Exit.then (wpY l P Q cs) Q)) order (fun W=>St T w0 W Lc) (st n ρ ds) W):wpY l P Q (.region id ol.toArray true::cs) (st n ρ ds) w:=by
 simp only [Bool.and_eq_true,beq_iff_eq] at hB
 obtain ⟨⟨h1,h2⟩,h3⟩:=hB
 have hN:(Code.region id ol.toArray true).wpIn (Fence.wide.inRound l) 1 P (NoPan (Exit.then (wpY l P Q cs) Q)) (st n ρ ds) w:=by
  refine wpIn_region_draw fun t=>ops_in (fun h=>?_) (by simpa using hnd) _ _ _ ?_
  ·obtain ⟨a,w,h⟩:=h
   exact hL ⟨a,w,h.2⟩
  ·simp only [Region.schedule,hm,Bool.true_or,if_true]
   refine wpAny_sound ol.toArray.size t _ _ _ (wpAny_of_held (S:=fun W=>St T w0 W Lc) _ _ _ _ ?_)
   have:=wpT_sound (P:=P) (md:=.any) (Q:=NoPan (Exit.then (wpY l P Q cs) Q)) h1 (fun c a d v w h=>absurd rfl (h.1 c)) order (fun W=>St T w0 W Lc) (Array.replicate ol.toArray.size false) (st n ρ ds) w.drew h3 (H.drew.sub hs) (k _ H.drew)
   rw [h2] at this
   simpa using this
 exact wpIn_mono hN (fun _ _ _ h=>h.2)
theorem y_cut {c:Code} (lo:Nat) (M:List Nat) (J:List (Nat × Value)->World->Prop)
  (h:wpY l P (Exit.then (fun a w=>∃sl ρ',a=st n ρ' ds∧Eqo lo M ρ ρ'∧slotsOk ρ' sl∧J sl w) Q) [c] (st n ρ ds) w)
  (rest:∀sl ρv w,J sl w->wpY l P Q cs (st n (updl (ovr lo M ρ ρv) sl) ds) w):wpY l P Q (c::cs) (st n ρ ds) w:=by
 refine wpIn_mono (y_one h) (fun e a w q=>?_)
 cases e with
 | normal =>
  obtain ⟨sl,ρ',rfl,hE,hs,hJ⟩:=q
  have:=rest sl ρ' w hJ
  rwa [←hE.frame sl hs.mem] at this
 | _=>exact q
def RoundQ (A B:World->Prop):Exit->Act->World->Prop
 | .normal,_,W=>A W
 | .ret,_,W=>B W
 | _,_,_=>False
def RoundQ' (_n:Nat) (A:Act->World->Prop):Exit->Act->World->Prop
 | .normal,a,W=>A a W
 | _,_,_=>False
theorem round_n {A B:World->Prop} (h:A W):RoundQ A B .normal a W:=h
theorem round_r {A B:World->Prop} (h:B W):RoundQ A B .ret a W:=h
theorem round_a {A:Act->World->Prop} (h:A a W):RoundQ' 0 A .normal a W:=h
theorem ra_two {p q:Tmp} {v u:Value}:({ tmps:=((#[p,q]:Array Tmp).zip #[v,u]).foldl (fun t (p,v)=>t.setIfInBounds p v) (st n ρ ds).tmps,defers:=[] }:Act)=st n (upd (upd ρ p v) q u) []:=by
 have h1:=st_put (n:=n) (ρ:=ρ) (ds:=[]) p v
 have h2:=st_put (n:=n) (ρ:=upd ρ p v) (ds:=[]) q u
 rw [←h1] at h2
 simp only [Act.put] at h2
 refine Eq.trans ?_ h2
 simp [st]
theorem q_M1 {fn:Func} {R:Ending->World->Prop} {D:Nat} (H:St T w0 W (Fact.obj D (.deferred (some []))::L)) (h:∀W',St T w0 W' L->bodyPost P fn R .ret (st n ρ []) W'):bodyPostM Fence.wide 3 P fn R .ret (st n ρ [{ target:=.collected D,args:=#[] }]) W :=
 ⟨by simp,.inl ⟨D,_,rfl,(take_obj (P:=P) H).1,(h _ (take_obj (P:=P) H).2).2⟩⟩
end

def isC (W:World) (g:Nat):Prop:=∃o,W.heap[g]?=some o∧o.isCells=true
theorem isC.lt {W:World} {g:Nat} (h:isC W g):g<W.heap.size:=by
 obtain ⟨o,h,_⟩:=h
 exact (Array.getElem?_eq_some_iff.1 h).1
theorem isC.keep {W W':World} {g:Nat} (h:isC W g) (k:W'.heap[g]?=W.heap[g]?):isC W' g:=by
 obtain ⟨o,h1,h2⟩:=h
 exact ⟨o,k.trans h1,h2⟩
theorem isC_blk {W:World} {g:Nat} {c:List Value} {t:TypeId} (h:W.heap[g]?=some (.cells c.toArray t (0,0))):isC W g:=⟨_,h,rfl⟩
structure Snap (B:Nat) (Sn:World->(Nat->Prop)->Prop):Prop where
 fn:∀W u u',Sn W u->Sn W u'->∀g,u g->u' g
 loc:∀W W' u,Sn W u->(∀g,g<B∨u g->W'.heap[g]?=W.heap[g]?)->Sn W' u
 cel:∀W u,Sn W u->∀g,u g->isC W g
def KeepB (n0:Nat) (K0:Nat->Prop) (W W':World):Prop:=Below n0 W W'∧∀g,K0 g->W'.heap[g]?=W.heap[g]?
theorem KeepB.trans {n0:Nat} {K0:Nat->Prop} {A B C:World} (h:KeepB n0 K0 A B) (k:KeepB n0 K0 B C):KeepB n0 K0 A C:=⟨h.1.trans k.1,fun g hg=>(k.2 g hg).trans (h.2 g hg)⟩
theorem KeepB.refl {n0:Nat} {K0:Nat->Prop} {A:World}:KeepB n0 K0 A A:=⟨Below.refl _ _,fun _ _=>rfl⟩
def Sn0:World->(Nat->Prop)->Prop:=fun _ u=>∀g,¬u g
theorem snap0 {B:Nat}:Snap B Sn0:=⟨fun _ _ _ h _ g hg=>absurd hg (h g),fun _ _ _ h _=>h,fun _ _ h g hg=>absurd hg (h g)⟩
def SnRow (g2:Nat) (t e s:Nat):World->(Nat->Prop)->Prop:=fun W u=>∃A m c xs,W.heap[g2]?=some (.cells [.slice A m c].toArray t (0,0))∧W.ownsRow 0 e s (.slice A m c) m xs∧∀g,u g↔(Value.slice A m c).ownBlock=some g
theorem own_isC {W:World} {e s m:Nat} {v:Value} {xs:List Value} (h:W.ownsRow 0 e s v m xs) {g:Nat} (hg:v.ownBlock=some g):isC W g:=by
 rcases h.2 with ⟨rfl,_⟩|⟨b,cap,cur,rfl,_,hb,_⟩
 ·cases hg
 ·cases hg
  exact ⟨_,hb,rfl⟩
theorem s1_const {W:World} {B:Nat} {L:List Fact} (h:∀f∈L,∀g,f.fp g->g<B):∃u,Sn0 W u∧∀f∈L,∀g,f.fp g->g<B∨u g:=⟨fun _=>False,fun _ h=>h,fun f hf g hg=>.inl (h f hf g hg)⟩
section
variable {P:Program} {n:Nat} {ρ:Nat->Value} {W:World} {o:Oper} {t e:TypeId} {x y z z':Operand} {A:Option Addr} {m c s l h mx:Nat} {a b b':Int} {k k' k'':IntKind}
end
section
variable {w0 W W':World} {L:List Fact} {B:Nat}
theorem St.turned {row:Option Nat} (H:St nT w0 W L) (hg:W.grownBy W' row) (hr:∀r,row=some r->B<=r∧∃o:Obj,W.heap[r]?=some o∧o.isCells=false) (hB:w0.heap.size<=B) (hc:∀f∈L,∀g,f.fp g->g<B∨isC W g):St nT w0 W' L:=by
 have hk:∀g,g<W.heap.size->g<B∨isC W g->W'.heap[g]?=W.heap[g]?:=fun g h1 h2=>hg.block g h1 (fun e=>by
  obtain ⟨h3,o,h4,h5⟩:=hr g e.symm
  rcases h2 with h2|⟨o',h6,h7⟩
  ·omega
  ·rw [h4] at h6;cases h6;rw [h5] at h7;cases h7)
 refine ⟨H.fr.trans (T':=fun k=>B<=k) ⟨hg.os,hg.tape,hg.output,hg.size,fun j hj hn=>hk j hj (.inl (by omega))⟩ (fun g h1 h2=>absurd h2 (by have:=H.fr.size;omega)),fun f hf=>f.st W W' (H.holds f hf) (fun g hg'=>hk g (H.own f hf g hg').2 (hc f hf g hg')),fun f hf g hg'=>⟨(H.own f hf g hg').1,Nat.lt_of_lt_of_le (H.own f hf g hg').2 hg.size⟩,H.apart⟩
theorem below_grown {W W':World} (h:Below W.heap.size W W'):W.grownBy W' none:=⟨h.os,h.tape,h.output,h.size,fun k hk _=>h.block k hk⟩
theorem St.alone (H:St nT w0 W L):St (fun g=>∃f∈L,f.fp g) W W L:=⟨Fr.refl,H.holds,fun f hf g hg=>⟨.inl ⟨f,hf,hg⟩,(H.own f hf g hg).2⟩,H.apart⟩
end
theorem k_rangeB {P:Program} {Q:Exit->Act->World->Prop} {cs:List Code} {n:Nat} {ρ:Nat->Value} {ds:List Deferred} {w0 W:World} {α β β':Type} {g:Operand} {ps:Array Tmp} {assign body:Code} {gf:Nat} {fn:Func} {c:Code} {lb:Array Value} {encs:α->Array Value} {K0:Nat->Prop} {S Sp:List α->Prop} {N:Nat}
  (FKs:List Fact) (Lx:List α->β->List Fact) (C:List α->β->Prop) (Lxx:List α->β'->List Fact) (Cx:List α->β'->Prop) (Sn:World->(Nat->Prop)->Prop) (e:α->List Value) (tb:TypeId) (ra:(Nat->Value)->α->(Nat->Value)) (rb:(Nat->Value)->α->Nat->(Nat->Value)) (z0:β)
  (hg : ev n ρ g = .func (.func gf) #[] lb) (hf : P.funcs[gf]? = some fn) (hname : (fn.name == "runtime.NumGoroutine") = false) (hb : fn.body = some c) (hseq : SeqStopsK Fence.wide 2 P gf lb encs (KeepB w0.heap.size K0) S Sp N W) (hps : ∀ x, (encs x).size = ps.size)
  (hra:∀x,({ tmps:=(ps.zip (encs x)).foldl (fun t (p,v)=>t.setIfInBounds p v) (st n ρ ds).tmps,defers:=[] }:Act)=st n (ra ρ x) [])
  (H:St nT w0 W (FKs++Lx [] z0)) (hC0:C [] z0) (hK:∀g,K0 g->∃f∈FKs,f.fp g)
  (hSn:Snap W.heap.size Sn) (hs1:∀pre z W',C pre z->St nT w0 W' (Lx pre z)->∃u,Sn W' u∧∀f∈Lx pre z,∀g,f.fp g->g<W.heap.size∨u g)
  (hsx:∀pre z W',Cx pre z->St nT w0 W' (Lxx pre z)->∀f∈Lxx pre z,∀g,f.fp g->g<W.heap.size∨isC W' g)
  (hassign:∀(l:Nat) (x:α) (W1:World),wpY l P (RoundQ' 0 (fun a' W'=>∃g,a'=st n (rb ρ x g) []∧Below W1.heap.size W1 W'∧W1.heap.size<=g∧W'.heap[g]?=some (.cells (e x).toArray tb (0,0)))) [assign] (st n (ra ρ x) []) W1)
  (hbody:∀(l:Nat) (pre:List α) (x:α) (z:β) (gx:Nat) (W1:World) (T1:Nat->Prop),C pre z->pre.length<N->(∀W2,Fr T1 W1 W2->Below w0.heap.size w0 W2)->St T1 W1 W1 (Fact.blk gx (e x) tb::Lx pre z) ->
   wpY l P (RoundQ (fun W2=>∃z',C (pre++[x]) z'∧St T1 W1 W2 (Lx (pre++[x]) z')) (fun W2=>∃z',Cx (pre++[x]) z'∧St T1 W1 W2 (Lxx (pre++[x]) z'))) [body] (st n (rb ρ x gx) []) W1)
  (k:∀D xs z W',S xs->C xs z->St nT w0 W' (Fact.obj D (.deferred (some []))::Lx xs z)->wpK P Q cs (st n ρ ({ target:=.collected D,args:=#[] }::ds)) W')
  (kx:∀D pre z W',Sp pre->Cx pre z->St nT w0 W' (Fact.obj D (.deferred (some []))::Lxx pre z)->Q .ret (st n ρ ({ target:=.collected D,args:=#[] }::ds)) W'):wpK P Q (.rangeFunc g ps assign body::cs) (st n ρ ds) W:=by
 have hB:w0.heap.size<=W.heap.size:=H.fr.size
 have hFB:∀f∈FKs,∀g,f.fp g->g<W.heap.size:=fun f hf g hg=>(H.own f (List.mem_append_left _ hf) g hg).2
 have toL:∀{W' pre z},St nT w0 W' (FKs++Lx pre z)->St nT w0 W' (Lx pre z):=fun h=>h.sub (List.sublist_append_right _ _)
 refine (wpIn_wide (n:=3)).1 ?_
 refine wpIn_rangeFunc_ownH (gf:=gf) (lb:=lb) (F:=Fence.wide) (n:=3) (S:=S) (Sp:=Sp) (N:=N) (w0:=W) rfl (by omega) (by rw [st_eval];exact hg) trivial (enters_of hf hname hb) hseq
  (fun h1 h2=>KeepB.trans h1 h2) ?hKb (Below.refl _ _) hps
  (fun pre W'=>W.heap.size<=W'.heap.size∧∃z,C pre z∧St nT w0 W' (FKs++Lx pre z)) (fun cx pre W'=>cx=.ret∧∃z,Cx pre z∧St nT w0 W' (Lxx pre z)) ?hI ?hIx ⟨Nat.le_refl _,z0,hC0,H⟩
  (fun x a' W'=>∃g u,a'=st n (rb ρ x g) []∧W.heap.size<=g∧W'.heap[g]?=some (.cells (e x).toArray tb (0,0))∧Sn W' u∧¬u g) ?hAx ?ha ?hbd ?hd ?hst
 case hKb =>
  intro A l o o' hl _ _ _
  have hg:=grownBy_putObj' A l o'
  exact ⟨⟨hg.os,hg.tape,hg.output,hg.size,fun g hg=>World.putObj_heap_other (by omega)⟩,fun g hg=>by
   obtain ⟨f,h1,h2⟩:=hK g hg
   exact World.putObj_heap_other (by have:=hFB f h1 g h2;omega)⟩
 case hI =>
  rintro pre A A' row ⟨h0,z,hC,hs⟩ hgr hrow
  refine ⟨Nat.le_trans h0 hgr.size,z,hC,hs.turned hgr hrow hB (fun f hf g hg=>?_)⟩
  rcases List.mem_append.1 hf with hf|hf
  ·exact .inl (hFB f hf g hg)
  ·obtain ⟨u,h1,h2⟩:=hs1 pre z A hC (toL hs)
   rcases h2 f hf g hg with h|h
   ·exact .inl h
   ·exact .inr (hSn.cel _ _ h1 g h)
 case hIx =>
  rintro cx pre A A' row ⟨h0,z,hC,hs⟩ hgr hrow
  exact ⟨h0,z,hC,hs.turned hgr hrow hB (hsx pre z A hC hs)⟩
 case hAx =>
  rintro x a' _ A A' row ⟨g,u,h1,h2,h3,h4,h5⟩ hgr hrow
  have hlt:g<A.heap.size:=(isC_blk h3).lt
  have hk:∀j,j<W.heap.size∨isC A j->A'.heap[j]?=A.heap[j]?:=fun j hj=>hgr.block j (by rcases hj with hj|hj;omega;exact hj.lt) (fun e=>by
   obtain ⟨q1,o,q2,q3⟩:=hrow j e.symm
   rcases hj with hj|⟨o',q4,q5⟩
   ·omega
   ·rw [q2] at q4;cases q4;rw [q3] at q5;cases q5)
  exact ⟨g,u,h1,h2,(hk g (.inr (isC_blk h3))).trans h3,hSn.loc A A' u h4 (fun j hj=>hk j (by rcases hj with hj|hj;exact .inl hj;exact .inr (hSn.cel _ _ h4 j hj))),h5⟩
 case ha =>
  rintro l pre x A K ⟨h0,z,hC,hs⟩ hK'
  rw [hra x]
  refine wpIn_mono (y_one (hassign l x A)) (fun e' a' A' q=>?_)
  cases e' with
  | normal =>
   obtain ⟨g,rfl,hbl,hge,hcell⟩:=q
   obtain ⟨u,h1,h2⟩:=hs1 pre z A hC (toL hs)
   have hs':=hs.below hbl
   refine hK' _ _ ((KeepsOthers.mk hbl.size (fun k o hk _=>(hbl.block k (Array.getElem?_eq_some_iff.1 hk).1).trans hk)).from _) ⟨hbl.mono (by omega),fun j hj=>hbl.block j ?_⟩ ⟨Nat.le_trans h0 hbl.size,z,hC,hs'⟩ ⟨g,u,rfl,by omega,hcell,hSn.loc A A' u h1 (fun j hj=>hbl.block j ?_),fun hu=>?_⟩
   ·obtain ⟨f,q1,q2⟩:=hK j hj
    have:=hFB f q1 j q2
    omega
   ·rcases hj with hj|hj
    ·omega
    ·exact (hSn.cel _ _ h1 j hj).lt
   ·have:=(hSn.cel _ _ h1 g hu).lt
    omega
  | _=>exact q.elim
 case hbd =>
  rintro l pre x a' A hl - ⟨h0,z,hC,hs⟩ ⟨gx,u,rfl,hge,hcell,hu,hnu⟩ hlen
  obtain ⟨u',h1,h2⟩:=hs1 pre z A hC (toL hs)
  have hu':∀f∈Lx pre z,∀g,f.fp g->g<W.heap.size∨isC A g:=fun f hf g hg=>(h2 f hf g hg).imp_right (hSn.cel _ _ h1 g)
  have hgx:∀f∈Lx pre z,¬f.fp gx:=fun f hf hg=>by
   rcases h2 f hf gx hg with h|h
   ·omega
   ·exact hnu (hSn.fn _ _ _ h1 hu gx h)
  have hA0:=toL hs
  have hA:St nT w0 A (Fact.blk gx (e x) tb::Lx pre z):=⟨hA0.fr,fun f hf=>by
   rcases List.mem_cons.1 hf with rfl|hf
   ·exact hcell
   ·exact hA0.holds f hf,fun f hf g hg=>by
   rcases List.mem_cons.1 hf with rfl|hf
   ·have:g=gx:=hg
    subst this
    exact ⟨.inr (by omega),(isC_blk hcell).lt⟩
   ·exact hA0.own f hf g hg,List.pairwise_cons.2 ⟨fun f hf g hg hfg=>by
   have:g=gx:=hg
   subst this
   exact hgx f hf hfg,hA0.apart⟩⟩
  obtain ⟨T1,hT1⟩:∃T1:Nat->Prop,T1=fun g=>∃f∈Fact.blk gx (e x) tb::Lx pre z,f.fp g:=⟨_,rfl⟩
  have hal:=hA.alone
  rw [←hT1] at hal
  have hTn:∀g,T1 g->w0.heap.size<=g:=fun g hg=>by
   rw [hT1] at hg
   obtain ⟨f,hf,hg⟩:=hg
   exact (hA.own f hf g hg).1.resolve_left (fun h=>h)
  have hTc:∀g,T1 g->g<W.heap.size∨isC A g:=fun g hg=>by
   rw [hT1] at hg
   obtain ⟨f,hf,hg⟩:=hg
   rcases List.mem_cons.1 hf with rfl|hf
   ·have:g=gx:=hg
    subst this
    exact .inr (isC_blk hcell)
   ·exact hu' f hf g hg
  have hTK:∀f∈FKs,∀g,f.fp g->¬T1 g:=fun f hf g hg hT=>by
   rw [hT1] at hT
   obtain ⟨f',hf',hg'⟩:=hT
   rcases List.mem_cons.1 hf' with rfl|hf'
   ·have:g=gx:=hg'
    have:=hFB f hf g hg
    omega
   ·exact (List.pairwise_append.1 hs.apart).2.2 f hf f' hf' g hg hg'
  have hpast:∀W2,Fr T1 A W2->Below w0.heap.size w0 W2:=fun W2 h=>(hA.fr.trans h (fun g h1 h2=>absurd (hTn g h2) (by omega))).below (Nat.le_refl _) (fun _ h=>h.elim)
  have fin:∀(W2:World) (L':List Fact),St T1 A W2 L'->KeepsFrom W.heap.size A W2∧KeepB w0.heap.size K0 A W2∧St nT w0 W2 L'∧St nT w0 W2 (FKs++L'):=by
   intro W2 L' h
   have hold:∀f∈L',∀g,f.fp g->w0.heap.size<=g:=fun f hf g hg=>by
    rcases (h.own f hf g hg).1 with q|q
    ·exact hTn g q
    ·have:=hA.fr.size;omega
   have hL':St nT w0 W2 L':=⟨hA.fr.trans h.fr (fun g h1 h2=>absurd (hTn g h2) (by omega)),h.holds,fun f hf g hg=>⟨.inr (hold f hf g hg),(h.own f hf g hg).2⟩,h.apart⟩
   have hF:=hs.sub (List.sublist_append_left FKs (Lx pre z))
   have hsame:∀f∈FKs,∀g,f.fp g->W2.heap[g]?=A.heap[g]?:=fun f hf g hg=>h.fr.block g (hF.own f hf g hg).2 (hTK f hf g hg)
   refine ⟨⟨h.fr.size,fun j o hj ho hc=>(h.fr.block j (Array.getElem?_eq_some_iff.1 ho).1 (fun hT=>?_)).trans ho⟩,⟨⟨h.fr.os,h.fr.tape,h.fr.output,h.fr.size,fun j hj=>h.fr.block j (by omega) (fun hT=>by have:=hTn j hT;omega)⟩,fun j hj=>?_⟩,hL',⟨hL'.fr,fun f hf=>?_,fun f hf g hg=>?_,List.pairwise_append.2 ⟨hF.apart,h.apart,fun f hf f' hf' g hg hg'=>?_⟩⟩⟩
   ·rcases hTc j hT with q|⟨o',q1,q2⟩
    ·omega
    ·rw [ho] at q1;cases q1;rw [hc] at q2;cases q2
   ·obtain ⟨f,q1,q2⟩:=hK j hj
    exact hsame f q1 j q2
   ·rcases List.mem_append.1 hf with hf|hf
    ·exact f.st A W2 (hF.holds f hf) (hsame f hf)
    ·exact h.holds f hf
   ·rcases List.mem_append.1 hf with hf|hf
    ·exact ⟨(hF.own f hf g hg).1,Nat.lt_of_lt_of_le (hF.own f hf g hg).2 h.fr.size⟩
    ·exact hL'.own f hf g hg
   ·rcases (h.own f' hf' g hg').1 with q|q
    ·exact hTK f hf g hg q
    ·have:=hFB f hf g hg;omega
  refine wpIn_mono (y_one (hbody l pre x z gx A T1 hC hlen hpast hal)) (fun e' a' W2 q=>?_)
  cases e' with
  | normal =>
   obtain ⟨z',hC',h⟩:=q
   obtain ⟨q1,q2,q3,q4⟩:=fin W2 _ h
   exact ⟨q1,q2,Nat.le_trans h0 h.fr.size,z',hC',q4⟩
  | ret =>
   obtain ⟨z',hC',h⟩:=q
   obtain ⟨q1,q2,q3,q4⟩:=fin W2 _ h
   exact ⟨q1,rfl,z',hC',q3⟩
  | _=>exact q.elim
 case hd =>
  rintro D xs A hD hS ⟨h0,z,hC,hs⟩ hK'
  have hA:=toL hs
  obtain ⟨u,h1,h2⟩:=hs1 xs z A hC hA
  refine k D xs z A hS hC ⟨hA.fr,fun f hf=>?_,fun f hf g hg=>?_,List.pairwise_cons.2 ⟨fun f hf g hg hfg=>?_,hA.apart⟩⟩
  ·rcases List.mem_cons.1 hf with rfl|hf
   ·exact hK'
   ·exact hA.holds f hf
  ·rcases List.mem_cons.1 hf with rfl|hf
   ·cases hg
    exact ⟨.inr (by omega),(Array.getElem?_eq_some_iff.1 hK').1⟩
   ·exact hA.own f hf g hg
  ·cases hg
   rcases h2 f hf D hfg with q|q
   ·omega
   ·obtain ⟨o,q1,q2⟩:=hSn.cel _ _ h1 D q
    rw [hK'] at q1;cases q1;cases q2
 case hst =>
  rintro D cx pre A hD hS ⟨rfl,z,hC,hA⟩ hK'
  refine wpIn_ret ?_
  refine kx D pre z A hS hC ⟨hA.fr,fun f hf=>?_,fun f hf g hg=>?_,List.pairwise_cons.2 ⟨fun f hf g hg hfg=>?_,hA.apart⟩⟩
  ·rcases List.mem_cons.1 hf with rfl|hf
   ·exact hK'
   ·exact hA.holds f hf
  ·rcases List.mem_cons.1 hf with rfl|hf
   ·cases hg
    exact ⟨.inr (by omega),(Array.getElem?_eq_some_iff.1 hK').1⟩
   ·exact hA.own f hf g hg
  ·cases hg
   rcases hsx pre z A hC hA f hf D hfg with q|⟨o,q1,q2⟩
   ·omega
   ·rw [hK'] at q1;cases q1;cases q2
end Go.Proofs.YtjjodibkmeefpaaGreatDoor
