import Derived.Test.YtjjodibkmeefpaaDoorMV
import Derived.Test.YtjjodibkmeefpaaDoorProg
import Derived.KernelRfl
set_option linter.unusedVariables false
set_option linter.unusedSimpArgs false
set_option maxHeartbeats 4000000

namespace Go.Proofs.YtjjodibkmeefpaaDoor
open Go Go.RowKit
theorem ty1:((Tryd.prog.info? 1).bind (·.zero)).isSome=true:=by kernel_rfl
theorem ty2:((Tryd.prog.info? 2).bind (·.zero)).isSome=true:=by kernel_rfl
theorem tu3:Tryd.prog.underlying 3=some (.int .i64):=by kernel_rfl
theorem ts3:(Tryd.prog.info? 3).map (·.size)=some 1:=by kernel_rfl
theorem ta3:aggB Tryd.prog 3=some false:=by kernel_rfl
theorem tz3:((Tryd.prog.info? 3).bind (·.zero)).map (·.cells)=some (List.toArray [.int .i64 0]):=by kernel_rfl
theorem ty3:((Tryd.prog.info? 3).bind (·.zero)).isSome=true:=by kernel_rfl
theorem ts4:(Tryd.prog.info? 4).map (·.size)=some 1:=by kernel_rfl
theorem ta4:aggB Tryd.prog 4=some false:=by kernel_rfl
theorem tz4:((Tryd.prog.info? 4).bind (·.zero)).map (·.cells)=some (List.toArray [.bool false]):=by kernel_rfl
theorem tu5:Tryd.prog.underlying 5=some (.int .u8):=by kernel_rfl
theorem ts5:(Tryd.prog.info? 5).map (·.size)=some 1:=by kernel_rfl
theorem ta5:aggB Tryd.prog 5=some false:=by kernel_rfl
theorem tz5:((Tryd.prog.info? 5).bind (·.zero)).map (·.cells)=some (List.toArray [.int .u8 0]):=by kernel_rfl
theorem ty5:((Tryd.prog.info? 5).bind (·.zero)).isSome=true:=by kernel_rfl
theorem tx5:(Tryd.prog.info? 5).map (fun i=>(i.zero.map (·.cells.size),i.size,i.bytes))=some (some 1,1,1):=by kernel_rfl
theorem tu9:Tryd.prog.underlying 9=some (.string):=by kernel_rfl
theorem tu22:Tryd.prog.underlying 22=some (.slice 58):=by kernel_rfl
theorem ta22:aggB Tryd.prog 22=some false:=by kernel_rfl
theorem tu23:Tryd.prog.underlying 23=some (.slice 5):=by kernel_rfl
theorem ts23:(Tryd.prog.info? 23).map (·.size)=some 1:=by kernel_rfl
theorem ta23:aggB Tryd.prog 23=some false:=by kernel_rfl
theorem ty23:((Tryd.prog.info? 23).bind (·.zero)).isSome=true:=by kernel_rfl
theorem tx23:(Tryd.prog.info? 23).map (fun i=>(i.zero.map (·.cells.size),i.size,i.bytes))=some (some 1,1,24):=by kernel_rfl
theorem tu25:Tryd.prog.underlying 25=some (.array 32 5):=by kernel_rfl
theorem ts25:(Tryd.prog.info? 25).map (·.size)=some 32:=by kernel_rfl
theorem ta25:aggB Tryd.prog 25=some true:=by kernel_rfl
theorem tz25:((Tryd.prog.info? 25).bind (·.zero)).map (·.cells)=some (List.toArray [.int .u8 0,.int .u8 0,.int .u8 0,.int .u8 0,.int .u8 0,.int .u8 0,.int .u8 0,.int .u8 0,.int .u8 0,.int .u8 0,.int .u8 0,.int .u8 0,.int .u8 0,.int .u8 0,.int .u8 0,.int .u8 0,.int .u8 0,.int .u8 0,.int .u8 0,.int .u8 0,.int .u8 0,.int .u8 0,.int .u8 0,.int .u8 0,.int .u8 0,.int .u8 0,.int .u8 0,.int .u8 0,.int .u8 0,.int .u8 0,.int .u8 0,.int .u8 0]):=by kernel_rfl
theorem ts27:(Tryd.prog.info? 27).map (·.size)=some 33:=by kernel_rfl
theorem ta27:aggB Tryd.prog 27=some true:=by kernel_rfl
theorem tz27:((Tryd.prog.info? 27).bind (·.zero)).map (·.cells)=some (List.toArray [.int .u8 0,.int .u8 0,.int .u8 0,.int .u8 0,.int .u8 0,.int .u8 0,.int .u8 0,.int .u8 0,.int .u8 0,.int .u8 0,.int .u8 0,.int .u8 0,.int .u8 0,.int .u8 0,.int .u8 0,.int .u8 0,.int .u8 0,.int .u8 0,.int .u8 0,.int .u8 0,.int .u8 0,.int .u8 0,.int .u8 0,.int .u8 0,.int .u8 0,.int .u8 0,.int .u8 0,.int .u8 0,.int .u8 0,.int .u8 0,.int .u8 0,.int .u8 0,.int .i64 0]):=by kernel_rfl
theorem tf27_0:fOff Tryd.prog 27 0=some (0,25):=by kernel_rfl
theorem tf27_1:fOff Tryd.prog 27 1=some (32,3):=by kernel_rfl
theorem tf29_0:fOff Tryd.prog 29 0=some (0,23):=by kernel_rfl
theorem tf29_1:fOff Tryd.prog 29 1=some (1,27):=by kernel_rfl
theorem tf29_2:fOff Tryd.prog 29 2=some (34,25):=by kernel_rfl
theorem tf29_3:fOff Tryd.prog 29 3=some (66,25):=by kernel_rfl
theorem tu33:Tryd.prog.underlying 33=some (.slice 38):=by kernel_rfl
theorem ts33:(Tryd.prog.info? 33).map (·.size)=some 1:=by kernel_rfl
theorem ta33:aggB Tryd.prog 33=some false:=by kernel_rfl
theorem tz33:((Tryd.prog.info? 33).bind (·.zero)).map (·.cells)=some (List.toArray [.slice none 0 0]):=by kernel_rfl
theorem ts36:(Tryd.prog.info? 36).map (·.size)=some 2:=by kernel_rfl
theorem ta36:aggB Tryd.prog 36=some true:=by kernel_rfl
theorem tz36:((Tryd.prog.info? 36).bind (·.zero)).map (·.cells)=some (List.toArray [.int .i64 0,.slice none 0 0]):=by kernel_rfl
theorem ty36:((Tryd.prog.info? 36).bind (·.zero)).isSome=true:=by kernel_rfl
theorem tx36:(Tryd.prog.info? 36).map (fun i=>(i.zero.map (·.cells.size),i.size,i.bytes))=some (some 2,2,32):=by kernel_rfl
theorem tf36_0:fOff Tryd.prog 36 0=some (0,3):=by kernel_rfl
theorem tf36_1:fOff Tryd.prog 36 1=some (1,23):=by kernel_rfl
theorem ts38:(Tryd.prog.info? 38).map (·.size)=some 36:=by kernel_rfl
theorem tz38:((Tryd.prog.info? 38).bind (·.zero)).map (·.cells)=some (List.toArray [.int .u8 0,.int .u8 0,.int .u8 0,.int .u8 0,.int .u8 0,.int .u8 0,.int .u8 0,.int .u8 0,.int .u8 0,.int .u8 0,.int .u8 0,.int .u8 0,.int .u8 0,.int .u8 0,.int .u8 0,.int .u8 0,.int .u8 0,.int .u8 0,.int .u8 0,.int .u8 0,.int .u8 0,.int .u8 0,.int .u8 0,.int .u8 0,.int .u8 0,.int .u8 0,.int .u8 0,.int .u8 0,.int .u8 0,.int .u8 0,.int .u8 0,.int .u8 0,.int .i64 0,.int .i64 0,.slice none 0 0,.int .i64 0]):=by kernel_rfl
theorem ty38:((Tryd.prog.info? 38).bind (·.zero)).isSome=true:=by kernel_rfl
theorem tx38:(Tryd.prog.info? 38).map (fun i=>(i.zero.map (·.cells.size),i.size,i.bytes))=some (some 36,36,80):=by kernel_rfl
theorem tf38_0:fOff Tryd.prog 38 0=some (0,27):=by kernel_rfl
theorem tf38_1:fOff Tryd.prog 38 1=some (33,36):=by kernel_rfl
theorem tf38_2:fOff Tryd.prog 38 2=some (35,3):=by kernel_rfl
theorem tu41:Tryd.prog.underlying 41=some (.slice 61):=by kernel_rfl
theorem ts41:(Tryd.prog.info? 41).map (·.size)=some 1:=by kernel_rfl
theorem ta41:aggB Tryd.prog 41=some false:=by kernel_rfl
theorem tu42:Tryd.prog.underlying 42=some (.slice 36):=by kernel_rfl
theorem ts42:(Tryd.prog.info? 42).map (·.size)=some 1:=by kernel_rfl
theorem ta42:aggB Tryd.prog 42=some false:=by kernel_rfl
theorem ts44:(Tryd.prog.info? 44).map (·.size)=some 3:=by kernel_rfl
theorem ta44:aggB Tryd.prog 44=some true:=by kernel_rfl
theorem tz44:((Tryd.prog.info? 44).bind (·.zero)).map (·.cells)=some (List.toArray [.slice none 0 0,.slice none 0 0,.int .i64 0]):=by kernel_rfl
theorem ty44:((Tryd.prog.info? 44).bind (·.zero)).isSome=true:=by kernel_rfl
theorem tx44:(Tryd.prog.info? 44).map (fun i=>(i.zero.map (·.cells.size),i.size,i.bytes))=some (some 3,3,56):=by kernel_rfl
theorem tf44_0:fOff Tryd.prog 44 0=some (0,41):=by kernel_rfl
theorem tf44_1:fOff Tryd.prog 44 1=some (1,42):=by kernel_rfl
theorem tf44_2:fOff Tryd.prog 44 2=some (2,3):=by kernel_rfl
theorem ts46:(Tryd.prog.info? 46).map (·.size)=some 5:=by kernel_rfl
theorem ta46:aggB Tryd.prog 46=some true:=by kernel_rfl
theorem tz46:((Tryd.prog.info? 46).bind (·.zero)).map (·.cells)=some (List.toArray [.slice none 0 0,.slice none 0 0,.int .i64 0,.int .i64 0,.int .i64 0]):=by kernel_rfl
theorem tf46_0:fOff Tryd.prog 46 0=some (0,44):=by kernel_rfl
theorem tf46_1:fOff Tryd.prog 46 1=some (3,3):=by kernel_rfl
theorem tf46_2:fOff Tryd.prog 46 2=some (4,3):=by kernel_rfl
theorem ts55:(Tryd.prog.info? 55).map (·.size)=some 65:=by kernel_rfl
theorem ta55:aggB Tryd.prog 55=some true:=by kernel_rfl
theorem tu56:Tryd.prog.underlying 56=some (.slice 44):=by kernel_rfl
theorem ta56:aggB Tryd.prog 56=some false:=by kernel_rfl
theorem ts58:(Tryd.prog.info? 58).map (·.size)=some 66:=by kernel_rfl
theorem ta58:aggB Tryd.prog 58=some true:=by kernel_rfl
theorem ty58:((Tryd.prog.info? 58).bind (·.zero)).isSome=true:=by kernel_rfl
theorem tx58:(Tryd.prog.info? 58).map (fun i=>(i.zero.map (·.cells.size),i.size,i.bytes))=some (some 66,66,96):=by kernel_rfl
theorem tf58_0:fOff Tryd.prog 58 0=some (0,55):=by kernel_rfl
theorem tf58_1:fOff Tryd.prog 58 1=some (65,56):=by kernel_rfl
theorem tu59:Tryd.prog.underlying 59=some (.slice 23):=by kernel_rfl
theorem ts59:(Tryd.prog.info? 59).map (·.size)=some 1:=by kernel_rfl
theorem ta59:aggB Tryd.prog 59=some false:=by kernel_rfl
theorem ts61:(Tryd.prog.info? 61).map (·.size)=some 34:=by kernel_rfl
theorem ta61:aggB Tryd.prog 61=some true:=by kernel_rfl
theorem tz61:((Tryd.prog.info? 61).bind (·.zero)).map (·.cells)=some (List.toArray [.int .u8 0,.int .u8 0,.int .u8 0,.int .u8 0,.int .u8 0,.int .u8 0,.int .u8 0,.int .u8 0,.int .u8 0,.int .u8 0,.int .u8 0,.int .u8 0,.int .u8 0,.int .u8 0,.int .u8 0,.int .u8 0,.int .u8 0,.int .u8 0,.int .u8 0,.int .u8 0,.int .u8 0,.int .u8 0,.int .u8 0,.int .u8 0,.int .u8 0,.int .u8 0,.int .u8 0,.int .u8 0,.int .u8 0,.int .u8 0,.int .u8 0,.int .u8 0,.int .i64 0,.slice none 0 0]):=by kernel_rfl
theorem ty61:((Tryd.prog.info? 61).bind (·.zero)).isSome=true:=by kernel_rfl
theorem tx61:(Tryd.prog.info? 61).map (fun i=>(i.zero.map (·.cells.size),i.size,i.bytes))=some (some 34,34,64):=by kernel_rfl
theorem tf61_0:fOff Tryd.prog 61 0=some (0,27):=by kernel_rfl
theorem tf61_1:fOff Tryd.prog 61 1=some (33,59):=by kernel_rfl
theorem tu87:Tryd.prog.underlying 87=some (.int .u64):=by kernel_rfl
theorem ta87:aggB Tryd.prog 87=some false:=by kernel_rfl
theorem ts117:(Tryd.prog.info? 117).map (·.size)=some 1:=by kernel_rfl
theorem ta117:aggB Tryd.prog 117=some false:=by kernel_rfl
theorem tz117:((Tryd.prog.info? 117).bind (·.zero)).map (·.cells)=some (List.toArray [.nilFunc]):=by kernel_rfl
theorem ts125:(Tryd.prog.info? 125).map (·.size)=some 3:=by kernel_rfl
theorem ta125:aggB Tryd.prog 125=some true:=by kernel_rfl
theorem tz125:((Tryd.prog.info? 125).bind (·.zero)).map (·.cells)=some (List.toArray [.int .u8 0,.int .i64 0,.int .u64 0]):=by kernel_rfl
theorem tf125_0:fOff Tryd.prog 125 0=some (0,5):=by kernel_rfl
theorem tf125_1:fOff Tryd.prog 125 1=some (1,3):=by kernel_rfl
theorem tf125_2:fOff Tryd.prog 125 2=some (2,87):=by kernel_rfl
theorem tu126:Tryd.prog.underlying 126=some (.array 3 125):=by kernel_rfl
theorem tu128:Tryd.prog.underlying 128=some (.slice 125):=by kernel_rfl
end Go.Proofs.YtjjodibkmeefpaaDoor

namespace Go.Proofs.YtjjodibkmeefpaaDoor
open Go Go.RowKit
attribute [local irreducible] wpList

theorem copyBytes {S:Nat->Prop} (v:Value) (l:List UInt8) (w:World) (ha:Bs w S v l) (hl:l.length<=1000000000000) :
  Calls Tryd.prog 63 [v].toArray w (Ret (NewB 5 w l)):=by
 obtain ⟨A,c,rfl,hc,hc2,ha⟩:=ha.op
 refine kE (l:=[_]) Tryd.func63 U U ?_
 have H:=St.start nT w
 refine kR (sAs U (lkR (sAs U (ln ?_))))
 replace H:=H.nilrow 5 1
 refine kQ (kR (sAi U (ln (kb (kL 3 [] (fun mm sl W=>∃k:Nat,∃B:Option Addr,∃d:Nat,l.length - k=mm∧sl=[(4,.int .i64 (k:Int)),(3,.slice B k d)]∧(k<=l.length)∧(k<=d∧d<=9223372036854775807)∧St nT w W [Fact.row 5 1 (.slice B k d) k ((l.take k).map u8v)]) _ _ ⟨0,none,0,U,U,Nat.zero_le _,⟨Nat.le_refl _,by omega⟩,H⟩ ⟨U,U,trivial⟩ (fun mm sl ρv W hJ=>?_))))))
 clear H;obtain ⟨k,B,d,rfl,rfl,hk,hd,H⟩:=hJ
 refine ko (kQ (kR (sMi U (sMs U (sLn U tu23 (sLt U U (ln (kC U (fun hc8=>?_) (fun hc8=>?_)))))))))
 ·first|(replace hc8:=of_decide_eq_true hc8)|simp at hc8
  refine kS (kQ (kb ?_))
  have hlt:k+1<=l.length:=by omega
  refine kr (sMs U (sMs U (sMi U (sR (d_iaB U (H.rd ha) U U U (by omega) tu23 ts5) (sR (d_ldB U (H.rd ha) (l_get (by omega)) U ta5) (sf (ebs (xs:=[.tmp 15]) (vals:=[.int .u8 _]) (vs:=[.int .u8 _]) U U U U tu23 ts5 ty5 U U U H ?_)))))))
  clear H;intro g5_5 W H
  refine sf (eap tu23 tx5 U U U H (rd_blk H.blk U) (U) (by omega) U ?_)
  clear H;intro A1 c1 W hc1 hd1 H
  replace H:=H.drop
  refine sAs U (ln (kn (zE (kI U U U (by omega) U (kn (kY ?_))))))
  refine ⟨_,_,_,?_,U,?_,?_,⟨k+1,A1,c1,U,U,hlt,⟨hc1,hd1⟩,by rw [take_u8 hlt];exact H⟩⟩
  ·omega
  ·with_reducible repeat first|exact .refl|refine .f ?_ ?_ ?_;kernel_rfl;kernel_rfl|refine .u ?_ ?_;kernel_rfl
  ·refine ⟨?_,?_,trivial⟩
   ·exact vi (by omega)
   ·exact U
 ·first|(replace hc8:=of_decide_eq_false hc8)|simp at hc8
  refine ke (xQ (xQ ?_))
  refine xH (kQ ?_)
  obtain rfl:k=l.length:=by omega
  rw [List.take_length] at H
  refine kr (sMs U (sAs U (ln (kx ?_))))
  refine qr (v:=.slice _ _ _) U U ⟨_,U,B,d,U,hd.1,hd.2,?_⟩
  exact H.give

theorem u8_eq {z:Int} {n:Nat} (h:z=n):IntKind.u8.wrap z=((UInt8.ofNat n).toNat:Int):=by subst h;rw [IntKind.wrap_u8];simp
theorem eqb {a b:UInt8}:((a.toNat:Int) == (b.toNat:Int))=(a == b):=by
 rw [Bool.eq_iff_iff,beq_iff_eq,beq_iff_eq,Int.ofNat_inj,UInt8.toNat_inj]

def marks (k:Nat):List UInt8:=(List.range k).map fun i=>UInt8.ofNat (201+7*i)
theorem map_snoc (a b:List UInt8) (x:UInt8):(a++(b++[x])).map u8v=(a++b).map u8v++[u8v x]:=by simp

theorem sameBytes {S S':Nat->Prop} (v u:Value) (l r:List UInt8) (w:World) (ha:Bs w S v l) (hb:Bs w S' u r) :
  Calls Tryd.prog 10 [v,u].toArray w (Ret (Is w (.bool (decide (l=r))))):=by
 have hn:=ha.len
 have hm:=hb.len
 obtain ⟨A,c,rfl,_,_,ha⟩:=ha.op
 obtain ⟨B,d,rfl,_,_,hb⟩:=hb.op
 refine kE (l:=[_,_]) Tryd.func10 U U ?_
 have H:=St.start nT w
 refine kR (sAb U (ln (kQ (kR (sMs U (sLn U tu23 (sMs U (sLn U tu23 (sNe U U (ln (kC U (fun hc10=>?_) (fun hc10=>?_))))))))))))
 ·simp at hc10
  refine kR (sAb U (ln (kx ?_)))
  refine qr (v:=.bool _) U U ⟨_,U,vb ?_,H.under⟩
  exact (decide_eq_false fun h=>hc10 (by rw [h])).symm
 ·simp at hc10
  refine kS (kQ (kR (sAi U (ln (kb (kL 11 [4,5] (fun mm sl W=>∃k:Nat,l.length - k=mm∧sl=[(5,.int .i64 (k:Int))]∧(k<=l.length)∧(l.take k=r.take k)∧St nT w W []) _ _ ⟨0,U,U,Nat.zero_le _,U,H⟩ ⟨U,trivial⟩ (fun mm sl ρv W hJ=>?_)))))))
  clear H;obtain ⟨k,rfl,rfl,hk,ht,H⟩:=hJ
  refine ko (kQ (kR (sMi U (sMs U (sLn U tu23 (sLt U U (ln (kC U (fun hc14=>?_) (fun hc14=>?_)))))))))
  ·first|(replace hc14:=of_decide_eq_true hc14)|simp at hc14
   refine kS (kQ (kb (kQ (k_draw [(0,true),(1,true),(2,true),(3,true),(4,true),(5,true),(6,true),(7,true),(8,true),(9,true)] _ (by kernel_rfl) (by kernel_rfl) H (.refl _) ?_))))
   clear H;intro W H
   refine cMs U U (cMi U U (cR U (fun W H=>d_iaB U (H.rd ha) U U U (by omega) tu23 ts5) (cR U (fun W H=>d_ldB U (H.rd ha) (l_get (by omega)) U ta5) (cMs U U (cMi U U (cR U (fun W H=>d_iaB U (H.rd hb) U U U (by omega) tu23 ts5) (cR U (fun W H=>d_ldB U (H.rd hb) (l_get (by omega)) U ta5) (cR U (fun W H=>d_eq U U U) (cR U (fun W H=>d_not U U) (c_nil (kC U (fun hc26=>?_) (fun hc26=>?_))))))))))))
   ·rw [eqb,Bool.not_eq_true',beq_eq_false_iff_ne] at hc26
    refine kR (sAb U (ln (kx ?_)))
    refine qr (v:=.bool _) U U ⟨_,U,vb ?_,H.under⟩
    exact (decide_eq_false fun h=>hc26 (by rw [h])).symm
   ·rw [eqb,Bool.not_eq_false',beq_iff_eq] at hc26
    refine kS (kn (zE (kI U U U (by omega) U (kn (kY ?_)))))
    refine ⟨_,_,_,?_,U,?_,?_,⟨k+1,U,U,by omega,by rw [List.take_add_one,List.take_add_one,ht,l_get (by omega),l_get (by omega),hc26],H⟩⟩
    ·omega
    ·with_reducible repeat first|exact .refl|refine .f ?_ ?_ ?_;kernel_rfl;kernel_rfl|refine .u ?_ ?_;kernel_rfl
    ·refine ⟨?_,trivial⟩
     ·exact vi (by omega)
  ·first|(replace hc14:=of_decide_eq_false hc14)|simp at hc14
   refine ke (xQ (xQ ?_))
   refine xH (kR (sAb U (ln (kx ?_))))
   refine qr (v:=.bool _) U U ⟨_,U,vb ?_,H.under⟩
   rw [List.take_of_length_le (by omega),List.take_of_length_le (by omega)] at ht
   simp [ht]

def rowL (k:Nat):List UInt8:=(List.range k).map fun i=>UInt8.ofNat ((7+i) % 251)
def pick (v n:Int):Int:=if n<1 then 0 else v % n

theorem sl_eq {A:Option Addr} {m n c:Nat} (h:m=n):Value.slice A m c=.slice A n c:=by rw [h]
def formsC:List Value:=[.int .u8 253,.int .i64 2,.int .u64 253,.int .u8 254,.int .i64 4,.int .u64 65536,.int .u8 255,.int .i64 8,.int .u64 4294967296]

theorem grow_nil (q:Nat) (z:Int) (w:World) (hz:z=(q:Int)) (hq:q<=1099511627776) :
  Calls Tryd.prog 68 [.slice none 0 0,.int .i64 z].toArray w (Ret fun v w'=>∃A c,v=.slice A 0 c∧c<=9223372036854775807∧New w w' (Fact.row 5 1 (.slice A 0 c) 0 [])):=by
 subst hz
 refine kE (l:=[_,_]) Tryd.func68 U U ?_
 have H:=St.start nT w
 refine kR (sAs U (ln (kQ (kR (sMi U (sLt U U (ln (kF U (by first|(simp;done)|(simp;omega)) ?_))))))))
 refine kS (kQ (kR (sMi U (sMs U (sR (d_cap U U tu23) (sMs U (sLn U tu23 (sR (d_sub U U U (by omega)) (sR (d_sub U U U (by omega)) (sAi U (lkR (sMi U ?_))))))))))))
 refine sR (d_gt U U U) (ln (kC U (fun hc16=>?_) (fun hc16=>?_)))
 ·first|(replace hc16:=of_decide_eq_true hc16)|simp at hc16
  refine kr (sMs U (sMs U (sR (d_cap U U tu23) (sR (d_cutP U U (h:=0) U (by omega) U tu23 ts5) (sMi U (sf (e_appz (wn U) U U tu23 tu3 (by kernel_rfl) U U (q:=q) (by omega) (by omega) (by omega) H ?_)))))))
  clear H;intro A1 c1 W hc1 hd1 H
  refine sMs U (sLn U tu23 ?_)
  have hs:A1.isSome=true:=row_some (H.rowrd (A:=A1)) (by omega)
  replace H:=H.rowcut (q:=0) (Nat.zero_le _) hs
  rw [Nat.zero_mul,List.take_zero] at H
  refine sR (d_cutP U U (h:=0) U (by omega) U tu23 ts5) (sAs U (lkR (sMs U (sAs U (ln (kx ?_))))))
  exact qr (v:=.slice _ _ _) U U ⟨_,U,_,_,U,hd1,H.give⟩
 ·first|(replace hc16:=of_decide_eq_false hc16)|simp at hc16
  refine kS (kR (sMs U (sAs U (ln (kx ?_)))))
  replace H:=H.nilrow 5 1
  exact qr (v:=.slice _ _ _) U U ⟨_,U,_,_,U,by omega,H.give⟩

theorem concat2 {S S1 S2:Nat->Prop} {A B C:Option Addr} {n m c d e:Nat} {l r:List UInt8} (w:World) (hs:Rd w S 1 C 2 [.slice A n c,.slice B m d]) (ha:Rd w S1 1 A n (l.map u8v)) (hb:Rd w S2 1 B m (r.map u8v)) (hl:n+m<=1000000000000) :
  Calls Tryd.prog 67 [.slice C 2 e].toArray w (Ret (NewB 5 w (l++r))):=by
 have hn:l.length=n:=by simpa using ha.1
 have hm:r.length=m:=by simpa using hb.1
 refine kE (l:=[_]) Tryd.func67 U U ?_
 have H:=St.start nT w
 refine kR (sAs U (lkR (sAi U (ln (kQ (kR (sMs U (sLn U tu59 (sMi U (ln (kb (k_unr (ko ?_)))))))))))))
 refine kR (sLt U U (ln (kQ (kT U (by first|(simp;done)|(simp;omega)) ?_))))
 refine kS (kQ (kb (kR (sR (d_iaS U (H.rd hs) U U (q:=0) U (by omega) tu59 ts23) (sR (d_ldR0 U (H.rd hs) U ta23 U) (sAs U (lkR (sMi U (sMs U (sLn U tu23 (sAd U U (by omega) (sAi U ?_))))))))))))
 refine lkR (sMi U (sLt U U (ln (kF U (by first|(simp;done)|(simp;omega)) ?_))))
 refine kS (kn (zE (kr (sAd U U (by omega) (sMi U (ln (kn (kY (hd_of (ko ?_))))))))))
 refine kR (sLt U U (ln (kQ (kT U (by first|(simp;done)|(simp;omega)) ?_))))
 refine kS (kQ (kb (kR (sR (d_iaS U (H.rd hs) U U (q:=1) U (by omega) tu59 ts23) (sR (d_ldR0 U (H.rd hs) U ta23 U) (sAs U (lkR (sMi U (sMs U (sLn U tu23 (sAd U U (by omega) (sAi U ?_))))))))))))
 refine lkR (sMi U (sLt U U (ln (kF U (by first|(simp;done)|(simp;omega)) ?_))))
 refine kS (kn (zE (kr (sAd U U (by omega) (sMi U (ln (kn (kY (hd_of (ko ?_))))))))))
 refine kR (sLt U U (ln (kQ (kF U (by first|(simp;done)|(simp;omega)) ?_))))
 refine ke (xQ (xQ ?_))
 refine xH (kR (sMi U (sf (ecl Tryd.func68 U U (grow_nil (n+m) _ _ (by omega) (by omega)) ?_))))
 rintro _ W ⟨A1,c1,rfl,hd1,hn1⟩
 replace H:=H.new hn1
 clear hn1
 refine sAs U (ln (kQ (kR (sMs U (sLn U tu59 (sMi U (ln (kb (k_unr (ko ?_))))))))))
 refine kR (sLt U U (ln (kQ (kT U (by first|(simp;done)|(simp;omega)) ?_))))
 refine kS (kQ (kb (kR (sR (d_iaS U (H.rd hs) U U (q:=0) U (by omega) tu59 ts23) (sR (d_ldR0 U (H.rd hs) U ta23 U) (sAs U (ln (kr (sMs U (sMs U (sf (eap tu23 tx5 U U U H (H.rd ha) (all_u8L _) (by omega) U ?_))))))))))))
 clear H;intro A2 c2 W hc2 hd2 H
 refine sAs U (ln (kn (zE (kr (sAd U U (by omega) (sMi U (ln (kn (kY (hd_of (ko ?_)))))))))))
 refine kR (sLt U U (ln (kQ (kT U (by first|(simp;done)|(simp;omega)) ?_))))
 refine kS (kQ (kb (kR (sR (d_iaS U (H.rd hs) U U (q:=1) U (by omega) tu59 ts23) (sR (d_ldR0 U (H.rd hs) U ta23 U) (sAs U (ln (kr (sMs U (sMs U (sf (eap tu23 tx5 U U U H (H.rd hb) (all_u8L _) (by omega) U ?_))))))))))))
 clear H;intro A3 c3 W hc3 hd3 H
 refine sAs U (ln (kn (zE (kr (sAd U U (by omega) (sMi U (ln (kn (kY (hd_of (ko ?_)))))))))))
 refine kR (sLt U U (ln (kQ (kF U (by first|(simp;done)|(simp;omega)) ?_))))
 refine ke (xQ (xQ ?_))
 refine xH (kR (sMs U (sAs U (ln (kx ?_)))))
 exact qr (v:=.slice _ _ _) U U ⟨_,U,H.newB (by simp;omega) (by simp) hc3 hd3⟩

theorem behind {S1 S2:Nat->Prop} {v u:Value} {l r:List UInt8} (w:World) (ha:Bs w S1 v l) (hb:Bs w S2 u r) (hl:l.length+r.length<=1000000000000) :
  Calls Tryd.prog 61 [v,u].toArray w (Ret (NewB 5 w (l++r))):=by
 obtain ⟨A,c,rfl,_,_,ha⟩:=ha.op
 obtain ⟨B,d,rfl,_,_,hb⟩:=hb.op
 refine kE (l:=[_,_]) Tryd.func61 U U ?_
 have H:=St.start nT w
 refine kR (sAs U (lkR (sMs U (sMs U (sf (ebs (xs:=[.tmp 5,.tmp 6]) (vals:=[.slice _ _ _,.slice _ _ _]) (vs:=[.slice _ _ _,.slice _ _ _]) U U U U tu59 ts23 ty23 U U U H ?_))))))
 clear H;intro g1_2 W H
 refine sf (eN Tryd.func67 U U (concat2 _ (rd_blk H.blk U) (H.rd ha) (H.rd hb) hl) H ?_)
 clear H;intro A1 c1 W hc1 hd1 H
 refine sAs U (ln (kx ?_))
 exact qr (v:=.slice _ _ _) U U ⟨_,U,H.newB U U hc1 hd1⟩

theorem packInt1 {S:Nat->Prop} {v:Value} {b:List UInt8} (n:Int) (w:World) (hG:Gat w 2 formsC) (hb:Bs w S v b) (hn : -9223372036854775808<=n∧n<=9223372036854775807) (hl:b.length<=500000000000) (hu:Pk.toU n<253) :
  Calls Tryd.prog 42 [v,.int .i64 n].toArray w (Ret (NewB 5 w (b++Pk.int (Pk.toU n)))):=by
 have hc:=u64_wrap n
 have hcast:=Pk.toU_cast n
 have hlt:=Pk.toU_lt n
 generalize Pk.toU n=u at *
 have hb0:=hb
 obtain ⟨A,c,rfl,_,_,_⟩:=hb.op
 refine kE (l:=[_,_]) Tryd.func42 U U ?_
 have H:=St.start nT w
 refine kR (sAs U (lkR (sMi U (sR (d_conv U U (by rw [tu3];rfl) tu87 hc) ?_))))
 refine sAi U (ln (kQ (kR (sMi U (sR (d_iaA U U U (q:=0) U tu126 (by omega) ts125) (sFa U tf125_2 (sR (d_ldG U (H.gat hG) U ta87 U) (sLt U U (ln (kT U (by first|(simp;done)|(simp;omega)) ?_))))))))))
 refine kR (sMs U (sMi U (sR (d_conv U U (by rw [tu3];rfl) tu5 (u8_eq (n:=u) (by omega))) ?_)))
 refine sf (ebs (xs:=[.tmp 20]) (vals:=[.int .u8 _]) (vs:=[.int .u8 _]) U U U U tu23 ts5 ty5 U U U H ?_)
 clear H;intro g3_3 W H
 refine sf (eN Tryd.func61 U U (behind _ (H.bs hb0) (Bs.mk (l:=[UInt8.ofNat u]) (rd_blk H.blk U) (by omega) (by omega)) (by simp;omega)) H ?_)
 clear H;intro A1 c1 W hc1 hd1 H
 refine sAs U (ln (kx ?_))
 exact qr (v:=.slice _ _ _) U U ⟨_,U,H.newB (by rw [Pk.int_1 hu]) (by rw [Pk.int_1 hu]) hc1 hd1⟩

theorem packInt2 {S:Nat->Prop} {v:Value} {b:List UInt8} (n:Int) (w:World) (hG:Gat w 2 formsC) (hb:Bs w S v b) (hl:b.length<=500000000000) (hu:253<=Pk.toU n∧Pk.toU n<65536) :
  Calls Tryd.prog 42 [v,.int .i64 n].toArray w (Ret (NewB 5 w (b++Pk.int (Pk.toU n)))):=by
 have hc:=u64_wrap n
 have hcast:=Pk.toU_cast n
 have hlt:=Pk.toU_lt n
 generalize Pk.toU n=u at *
 have hb0:=hb
 obtain ⟨A,c,rfl,_,_,_⟩:=hb.op
 refine kE (l:=[_,_]) Tryd.func42 U U ?_
 have H:=St.start nT w
 refine kR (sAs U (lkR (sMi U (sR (d_conv U U (by rw [tu3];rfl) tu87 hc) ?_))))
 refine sAi U (ln (kQ (kR (sMi U (sR (d_iaA U U U (q:=0) U tu126 (by omega) ts125) (sFa U tf125_2 (sR (d_ldG U (H.gat hG) U ta87 U) (sLt U U (ln (kF U (by first|(simp;done)|(simp;omega)) ?_))))))))))
 refine kS (kR (sR (d_iaA U U U (q:=0) U tu126 (by omega) ts125) (sR (d_ldmG U (H.gat hG) U ta125 ts125 U) (sf (eal [.int .u8 0,.int .i64 0,.int .u64 0] tz125 H ?_)))))
 clear H;intro g4_2 W H
 refine sf (e_sto (wn U) U U U U U ts125 U H U ?_)
 clear H;intro W H
 refine ln (kQ (kR (sR (d_arrS U U U (l:=1) U tu126 (by omega) ts125) (sLn U tu128 (sMi U (ln (kb (k_unr (ko ?_)))))))))
 refine kR (sLt U U (ln (kQ (kT U (by first|(simp;done)|(simp;omega)) ?_))))
 refine kS (kQ (kb (kR (sR (d_iaS U ((H.gat hG).rd (i:=3) (s:=3) (q:=2) U) U U (q:=0) U (by decide) tu128 ts125) (sR (d_ldmR (q:=0) U ((H.gat hG).rd (i:=3) (s:=3) (q:=2) U) U ta125 ts125 (by decide) (by decide)) (sf (eal [.int .u8 0,.int .i64 0,.int .u64 0] tz125 H ?_)))))))
 clear H;intro g7_2 W H
 refine sf (e_sto (wn U) U U U U U ts125 U H U ?_)
 clear H;intro W H
 refine lkR (sMi U (sFa U tf125_2 (sR (d_ld U H U ta87 U) (sR (d_ge U U U) (ln (kF U (by first|(simp;done)|(simp;omega)) ?_))))))
 refine kS (kn (zE (kr (sAd U U (by omega) (sMi U (ln (kn (kY (hd_of (ko ?_))))))))))
 refine kR (sLt U U (ln (kQ (kT U (by first|(simp;done)|(simp;omega)) ?_))))
 refine kS (kQ (kb (kR (sR (d_iaS U ((H.gat hG).rd (i:=3) (s:=3) (q:=2) U) U U (q:=1) (by omega) (by decide) tu128 ts125) (sR (d_ldmR (q:=1) U ((H.gat hG).rd (i:=3) (s:=3) (q:=2) U) U ta125 ts125 (by decide) (by decide)) (sf (eal [.int .u8 0,.int .i64 0,.int .u64 0] tz125 H ?_)))))))
 clear H;intro g7_2 W H
 refine sf (e_sto (wn U) U U U U U ts125 U H U ?_)
 clear H;intro W H
 refine lkR (sMi U (sFa U tf125_2 (sR (d_ld U H U ta87 U) (sR (d_ge U U U) (ln (kF U (by first|(simp;done)|(simp;omega)) ?_))))))
 refine kS (kn (zE (kr (sAd U U (by omega) (sMi U (ln (kn (kY (hd_of (ko ?_))))))))))
 refine kR (sLt U U (ln (kQ (kF U (by first|(simp;done)|(simp;omega)) ?_))))
 refine ke (xQ (xQ ?_))
 refine xH (kR (sMs U (sFa U tf125_0 (sR (d_ld U H U ta5 U) (sf (ebs (xs:=[.tmp 39]) (vals:=[.int .u8 _]) (vs:=[.int .u8 _]) U U U U tu23 ts5 ty5 U U U H ?_))))))
 clear H;intro g11_3 W H
 refine sf (eN Tryd.func61 U U (behind _ (H.bs hb0) (Bs.mk (l:=[253]) (rd_blk H.blk U) (by omega) (by omega)) (by simp;omega)) H ?_)
 clear H;intro A1 c1 W hc1 hd1 H
 refine sAs U (ln (kQ (kR (sFa U tf125_1 (sR (d_ld U H U ta3 U) (sMi U (ln ?_)))))))
 replace H:=H.sub (L':=[_]) (.cons_cons _ (List.nil_sublist _))
 refine kb (kL 44 [9,10] (fun mm sl W=>∃k:Nat,∃B:Option Addr,∃d:Nat,2 - k=mm∧sl=[(44,.int .i64 (k:Int)),(9,.slice B (b.length+1+k) d)]∧(k<=2)∧(b.length+1+k<=d∧d<=9223372036854775807)∧St nT w W [Fact.row 5 1 (.slice B (b.length+1+k) d) (b.length+1+k) ((b++253::Pk.le u k).map u8v)]) _ _ ⟨0,A1,c1,U,U,by omega,⟨by simpa using hc1,hd1⟩,by simpa [Pk.le] using H⟩ ⟨U,sl_eq (by simp),trivial⟩ (fun mm sl ρv W hJ=>?_))
 clear H;obtain ⟨k,B,d,rfl,rfl,hk,hd,H⟩:=hJ
 refine ko (kR (sLt U U (ln (kQ (kC U (fun hc45=>?_) (fun hc45=>?_))))))
 ·first|(replace hc45:=of_decide_eq_true hc45)|simp at hc45
  refine kS (kQ (kb (kR (sMi U (sAi U (ln (kr (sMs U (sMi U (sMi U (sR (d_mul U U U (by omega)) (sR (d_shr U U U (m:=8*k) U (by show 8*k<=64;omega)) ?_))))))))))))
  refine sR (d_conv U U (by rw [tu87];rfl) tu5 (u8_eq (shr_le u k))) ?_
  refine sf (ebs (xs:=[.tmp 52]) (vals:=[.int .u8 _]) (vs:=[.int .u8 _]) U U U U tu23 ts5 ty5 U U U H ?_)
  clear H;intro g15_6 W H
  refine sf (eap tu23 tx5 U U U H (rd_blk H.blk U) (U) (by omega) U ?_)
  clear H;intro A2 c2 W hc2 hd2 H
  replace H:=H.drop
  refine sAs U (ln (kn (zE (kr (sAd U U (by omega) (sMi U (ln (kn (kY ?_)))))))))
  refine ⟨_,_,_,?_,U,?_,?_,⟨k+1,A2,c2,U,U,by omega,⟨by omega,hd2⟩,by rw [Pk.le_succ,←List.cons_append,map_snoc];exact H⟩⟩
  ·omega
  ·with_reducible repeat first|exact .refl|refine .f ?_ ?_ ?_;kernel_rfl;kernel_rfl|refine .u ?_ ?_;kernel_rfl
  ·refine ⟨?_,?_,trivial⟩
   ·exact vi (by omega)
   ·exact U
 ·first|(replace hc45:=of_decide_eq_false hc45)|simp at hc45
  refine ke (xQ (xQ ?_))
  refine xH (kQ ?_)
  obtain rfl:k=2:=by omega
  refine kr (sMs U (sAs U (ln (kx ?_))))
  exact qr (v:=.slice _ _ _) U U ⟨_,U,H.newB (by rw [Pk.int_2 hu.1 hu.2];simp [Pk.len_le]) (by rw [Pk.int_2 hu.1 hu.2]) hd.1 hd.2⟩

theorem packInt4 {S:Nat->Prop} {v:Value} {b:List UInt8} (n:Int) (w:World) (hG:Gat w 2 formsC) (hb:Bs w S v b) (hl:b.length<=500000000000) (hu:65536<=Pk.toU n∧Pk.toU n<4294967296) :
  Calls Tryd.prog 42 [v,.int .i64 n].toArray w (Ret (NewB 5 w (b++Pk.int (Pk.toU n)))):=by
 have hc:=u64_wrap n
 have hcast:=Pk.toU_cast n
 have hlt:=Pk.toU_lt n
 generalize Pk.toU n=u at *
 have hb0:=hb
 obtain ⟨A,c,rfl,_,_,_⟩:=hb.op
 refine kE (l:=[_,_]) Tryd.func42 U U ?_
 have H:=St.start nT w
 refine kR (sAs U (lkR (sMi U (sR (d_conv U U (by rw [tu3];rfl) tu87 hc) ?_))))
 refine sAi U (ln (kQ (kR (sMi U (sR (d_iaA U U U (q:=0) U tu126 (by omega) ts125) (sFa U tf125_2 (sR (d_ldG U (H.gat hG) U ta87 U) (sLt U U (ln (kF U (by first|(simp;done)|(simp;omega)) ?_))))))))))
 refine kS (kR (sR (d_iaA U U U (q:=0) U tu126 (by omega) ts125) (sR (d_ldmG U (H.gat hG) U ta125 ts125 U) (sf (eal [.int .u8 0,.int .i64 0,.int .u64 0] tz125 H ?_)))))
 clear H;intro g4_2 W H
 refine sf (e_sto (wn U) U U U U U ts125 U H U ?_)
 clear H;intro W H
 refine ln (kQ (kR (sR (d_arrS U U U (l:=1) U tu126 (by omega) ts125) (sLn U tu128 (sMi U (ln (kb (k_unr (ko ?_)))))))))
 refine kR (sLt U U (ln (kQ (kT U (by first|(simp;done)|(simp;omega)) ?_))))
 refine kS (kQ (kb (kR (sR (d_iaS U ((H.gat hG).rd (i:=3) (s:=3) (q:=2) U) U U (q:=0) U (by decide) tu128 ts125) (sR (d_ldmR (q:=0) U ((H.gat hG).rd (i:=3) (s:=3) (q:=2) U) U ta125 ts125 (by decide) (by decide)) (sf (eal [.int .u8 0,.int .i64 0,.int .u64 0] tz125 H ?_)))))))
 clear H;intro g7_2 W H
 refine sf (e_sto (wn U) U U U U U ts125 U H U ?_)
 clear H;intro W H
 refine lkR (sMi U (sFa U tf125_2 (sR (d_ld U H U ta87 U) (sR (d_ge U U U) (ln (kT U (by first|(simp;done)|(simp;omega)) ?_))))))
 refine kr (sR (d_ldm U H U ta125 ts125 U) ?_)
 refine sf (e_sto (wn U) U U U U U ts125 U H U ?_)
 clear H;intro W H
 refine ln (kn (zE (kr (sAd U U (by omega) (sMi U (ln (kn (kY (hd_of (ko ?_))))))))))
 refine kR (sLt U U (ln (kQ (kT U (by first|(simp;done)|(simp;omega)) ?_))))
 refine kS (kQ (kb (kR (sR (d_iaS U ((H.gat hG).rd (i:=3) (s:=3) (q:=2) U) U U (q:=1) (by omega) (by decide) tu128 ts125) (sR (d_ldmR (q:=1) U ((H.gat hG).rd (i:=3) (s:=3) (q:=2) U) U ta125 ts125 (by decide) (by decide)) (sf (eal [.int .u8 0,.int .i64 0,.int .u64 0] tz125 H ?_)))))))
 clear H;intro g7_2 W H
 refine sf (e_sto (wn U) U U U U U ts125 U H U ?_)
 clear H;intro W H
 refine lkR (sMi U (sFa U tf125_2 (sR (d_ld U H U ta87 U) (sR (d_ge U U U) (ln (kF U (by first|(simp;done)|(simp;omega)) ?_))))))
 refine kS (kn (zE (kr (sAd U U (by omega) (sMi U (ln (kn (kY (hd_of (ko ?_))))))))))
 refine kR (sLt U U (ln (kQ (kF U (by first|(simp;done)|(simp;omega)) ?_))))
 refine ke (xQ (xQ ?_))
 refine xH (kR (sMs U (sFa U tf125_0 (sR (d_ld U H U ta5 U) (sf (ebs (xs:=[.tmp 39]) (vals:=[.int .u8 _]) (vs:=[.int .u8 _]) U U U U tu23 ts5 ty5 U U U H ?_))))))
 clear H;intro g11_3 W H
 refine sf (eN Tryd.func61 U U (behind _ (H.bs hb0) (Bs.mk (l:=[254]) (rd_blk H.blk U) (by omega) (by omega)) (by simp;omega)) H ?_)
 clear H;intro A1 c1 W hc1 hd1 H
 refine sAs U (ln (kQ (kR (sFa U tf125_1 (sR (d_ld U H U ta3 U) (sMi U (ln ?_)))))))
 replace H:=H.sub (L':=[_]) (.cons_cons _ (List.nil_sublist _))
 refine kb (kL 44 [9,10] (fun mm sl W=>∃k:Nat,∃B:Option Addr,∃d:Nat,4 - k=mm∧sl=[(44,.int .i64 (k:Int)),(9,.slice B (b.length+1+k) d)]∧(k<=4)∧(b.length+1+k<=d∧d<=9223372036854775807)∧St nT w W [Fact.row 5 1 (.slice B (b.length+1+k) d) (b.length+1+k) ((b++254::Pk.le u k).map u8v)]) _ _ ⟨0,A1,c1,U,U,by omega,⟨by simpa using hc1,hd1⟩,by simpa [Pk.le] using H⟩ ⟨U,sl_eq (by simp),trivial⟩ (fun mm sl ρv W hJ=>?_))
 clear H;obtain ⟨k,B,d,rfl,rfl,hk,hd,H⟩:=hJ
 refine ko (kR (sLt U U (ln (kQ (kC U (fun hc45=>?_) (fun hc45=>?_))))))
 ·first|(replace hc45:=of_decide_eq_true hc45)|simp at hc45
  refine kS (kQ (kb (kR (sMi U (sAi U (ln (kr (sMs U (sMi U (sMi U (sR (d_mul U U U (by omega)) (sR (d_shr U U U (m:=8*k) U (by show 8*k<=64;omega)) ?_))))))))))))
  refine sR (d_conv U U (by rw [tu87];rfl) tu5 (u8_eq (shr_le u k))) ?_
  refine sf (ebs (xs:=[.tmp 52]) (vals:=[.int .u8 _]) (vs:=[.int .u8 _]) U U U U tu23 ts5 ty5 U U U H ?_)
  clear H;intro g15_6 W H
  refine sf (eap tu23 tx5 U U U H (rd_blk H.blk U) (U) (by omega) U ?_)
  clear H;intro A2 c2 W hc2 hd2 H
  replace H:=H.drop
  refine sAs U (ln (kn (zE (kr (sAd U U (by omega) (sMi U (ln (kn (kY ?_)))))))))
  refine ⟨_,_,_,?_,U,?_,?_,⟨k+1,A2,c2,U,U,by omega,⟨by omega,hd2⟩,by rw [Pk.le_succ,←List.cons_append,map_snoc];exact H⟩⟩
  ·omega
  ·with_reducible repeat first|exact .refl|refine .f ?_ ?_ ?_;kernel_rfl;kernel_rfl|refine .u ?_ ?_;kernel_rfl
  ·refine ⟨?_,?_,trivial⟩
   ·exact vi (by omega)
   ·exact U
 ·first|(replace hc45:=of_decide_eq_false hc45)|simp at hc45
  refine ke (xQ (xQ ?_))
  refine xH (kQ ?_)
  obtain rfl:k=4:=by omega
  refine kr (sMs U (sAs U (ln (kx ?_))))
  exact qr (v:=.slice _ _ _) U U ⟨_,U,H.newB (by rw [Pk.int_4 hu.1 hu.2];simp [Pk.len_le]) (by rw [Pk.int_4 hu.1 hu.2]) hd.1 hd.2⟩

theorem packInt8 {S:Nat->Prop} {v:Value} {b:List UInt8} (n:Int) (w:World) (hG:Gat w 2 formsC) (hb:Bs w S v b) (hl:b.length<=500000000000) (hu:4294967296<=Pk.toU n) :
  Calls Tryd.prog 42 [v,.int .i64 n].toArray w (Ret (NewB 5 w (b++Pk.int (Pk.toU n)))):=by
 have hc:=u64_wrap n
 have hcast:=Pk.toU_cast n
 have hlt:=Pk.toU_lt n
 generalize Pk.toU n=u at *
 have hb0:=hb
 obtain ⟨A,c,rfl,_,_,_⟩:=hb.op
 refine kE (l:=[_,_]) Tryd.func42 U U ?_
 have H:=St.start nT w
 refine kR (sAs U (lkR (sMi U (sR (d_conv U U (by rw [tu3];rfl) tu87 hc) ?_))))
 refine sAi U (ln (kQ (kR (sMi U (sR (d_iaA U U U (q:=0) U tu126 (by omega) ts125) (sFa U tf125_2 (sR (d_ldG U (H.gat hG) U ta87 U) (sLt U U (ln (kF U (by first|(simp;done)|(simp;omega)) ?_))))))))))
 refine kS (kR (sR (d_iaA U U U (q:=0) U tu126 (by omega) ts125) (sR (d_ldmG U (H.gat hG) U ta125 ts125 U) (sf (eal [.int .u8 0,.int .i64 0,.int .u64 0] tz125 H ?_)))))
 clear H;intro g4_2 W H
 refine sf (e_sto (wn U) U U U U U ts125 U H U ?_)
 clear H;intro W H
 refine ln (kQ (kR (sR (d_arrS U U U (l:=1) U tu126 (by omega) ts125) (sLn U tu128 (sMi U (ln (kb (k_unr (ko ?_)))))))))
 refine kR (sLt U U (ln (kQ (kT U (by first|(simp;done)|(simp;omega)) ?_))))
 refine kS (kQ (kb (kR (sR (d_iaS U ((H.gat hG).rd (i:=3) (s:=3) (q:=2) U) U U (q:=0) U (by decide) tu128 ts125) (sR (d_ldmR (q:=0) U ((H.gat hG).rd (i:=3) (s:=3) (q:=2) U) U ta125 ts125 (by decide) (by decide)) (sf (eal [.int .u8 0,.int .i64 0,.int .u64 0] tz125 H ?_)))))))
 clear H;intro g7_2 W H
 refine sf (e_sto (wn U) U U U U U ts125 U H U ?_)
 clear H;intro W H
 refine lkR (sMi U (sFa U tf125_2 (sR (d_ld U H U ta87 U) (sR (d_ge U U U) (ln (kT U (by first|(simp;done)|(simp;omega)) ?_))))))
 refine kr (sR (d_ldm U H U ta125 ts125 U) ?_)
 refine sf (e_sto (wn U) U U U U U ts125 U H U ?_)
 clear H;intro W H
 refine ln (kn (zE (kr (sAd U U (by omega) (sMi U (ln (kn (kY (hd_of (ko ?_))))))))))
 refine kR (sLt U U (ln (kQ (kT U (by first|(simp;done)|(simp;omega)) ?_))))
 refine kS (kQ (kb (kR (sR (d_iaS U ((H.gat hG).rd (i:=3) (s:=3) (q:=2) U) U U (q:=1) (by omega) (by decide) tu128 ts125) (sR (d_ldmR (q:=1) U ((H.gat hG).rd (i:=3) (s:=3) (q:=2) U) U ta125 ts125 (by decide) (by decide)) (sf (eal [.int .u8 0,.int .i64 0,.int .u64 0] tz125 H ?_)))))))
 clear H;intro g7_2 W H
 refine sf (e_sto (wn U) U U U U U ts125 U H U ?_)
 clear H;intro W H
 refine lkR (sMi U (sFa U tf125_2 (sR (d_ld U H U ta87 U) (sR (d_ge U U U) (ln (kT U (by first|(simp;done)|(simp;omega)) ?_))))))
 refine kr (sR (d_ldm U H U ta125 ts125 U) ?_)
 refine sf (e_sto (wn U) U U U U U ts125 U H U ?_)
 clear H;intro W H
 refine ln (kn (zE (kr (sAd U U (by omega) (sMi U (ln (kn (kY (hd_of (ko ?_))))))))))
 refine kR (sLt U U (ln (kQ (kF U (by first|(simp;done)|(simp;omega)) ?_))))
 refine ke (xQ (xQ ?_))
 refine xH (kR (sMs U (sFa U tf125_0 (sR (d_ld U H U ta5 U) (sf (ebs (xs:=[.tmp 39]) (vals:=[.int .u8 _]) (vs:=[.int .u8 _]) U U U U tu23 ts5 ty5 U U U H ?_))))))
 clear H;intro g11_3 W H
 refine sf (eN Tryd.func61 U U (behind _ (H.bs hb0) (Bs.mk (l:=[255]) (rd_blk H.blk U) (by omega) (by omega)) (by simp;omega)) H ?_)
 clear H;intro A1 c1 W hc1 hd1 H
 refine sAs U (ln (kQ (kR (sFa U tf125_1 (sR (d_ld U H U ta3 U) (sMi U (ln ?_)))))))
 replace H:=H.sub (L':=[_]) (.cons_cons _ (List.nil_sublist _))
 refine kb (kL 44 [9,10] (fun mm sl W=>∃k:Nat,∃B:Option Addr,∃d:Nat,8 - k=mm∧sl=[(44,.int .i64 (k:Int)),(9,.slice B (b.length+1+k) d)]∧(k<=8)∧(b.length+1+k<=d∧d<=9223372036854775807)∧St nT w W [Fact.row 5 1 (.slice B (b.length+1+k) d) (b.length+1+k) ((b++255::Pk.le u k).map u8v)]) _ _ ⟨0,A1,c1,U,U,by omega,⟨by simpa using hc1,hd1⟩,by simpa [Pk.le] using H⟩ ⟨U,sl_eq (by simp),trivial⟩ (fun mm sl ρv W hJ=>?_))
 clear H;obtain ⟨k,B,d,rfl,rfl,hk,hd,H⟩:=hJ
 refine ko (kR (sLt U U (ln (kQ (kC U (fun hc45=>?_) (fun hc45=>?_))))))
 ·first|(replace hc45:=of_decide_eq_true hc45)|simp at hc45
  refine kS (kQ (kb (kR (sMi U (sAi U (ln (kr (sMs U (sMi U (sMi U (sR (d_mul U U U (by omega)) (sR (d_shr U U U (m:=8*k) U (by show 8*k<=64;omega)) ?_))))))))))))
  refine sR (d_conv U U (by rw [tu87];rfl) tu5 (u8_eq (shr_le u k))) ?_
  refine sf (ebs (xs:=[.tmp 52]) (vals:=[.int .u8 _]) (vs:=[.int .u8 _]) U U U U tu23 ts5 ty5 U U U H ?_)
  clear H;intro g15_6 W H
  refine sf (eap tu23 tx5 U U U H (rd_blk H.blk U) (U) (by omega) U ?_)
  clear H;intro A2 c2 W hc2 hd2 H
  replace H:=H.drop
  refine sAs U (ln (kn (zE (kr (sAd U U (by omega) (sMi U (ln (kn (kY ?_)))))))))
  refine ⟨_,_,_,?_,U,?_,?_,⟨k+1,A2,c2,U,U,by omega,⟨by omega,hd2⟩,by rw [Pk.le_succ,←List.cons_append,map_snoc];exact H⟩⟩
  ·omega
  ·with_reducible repeat first|exact .refl|refine .f ?_ ?_ ?_;kernel_rfl;kernel_rfl|refine .u ?_ ?_;kernel_rfl
  ·refine ⟨?_,?_,trivial⟩
   ·exact vi (by omega)
   ·exact U
 ·first|(replace hc45:=of_decide_eq_false hc45)|simp at hc45
  refine ke (xQ (xQ ?_))
  refine xH (kQ ?_)
  obtain rfl:k=8:=by omega
  refine kr (sMs U (sAs U (ln (kx ?_))))
  exact qr (v:=.slice _ _ _) U U ⟨_,U,H.newB (by rw [Pk.int_8 hu];simp [Pk.len_le]) (by rw [Pk.int_8 hu]) hd.1 hd.2⟩

theorem packInt {S:Nat->Prop} {v:Value} {b:List UInt8} (n:Int) (w:World) (hG:Gat w 2 formsC) (hb:Bs w S v b) (hn : -9223372036854775808<=n∧n<=9223372036854775807) (hl:b.length<=500000000000) :
  Calls Tryd.prog 42 [v,.int .i64 n].toArray w (Ret (NewB 5 w (b++Pk.int (Pk.toU n)))):=by
 rcases Nat.lt_or_ge (Pk.toU n) 253 with h|h
 ·exact packInt1 n w hG hb hn hl h
 rcases Nat.lt_or_ge (Pk.toU n) 65536 with h2|h2
 ·exact packInt2 n w hG hb hl ⟨h,h2⟩
 rcases Nat.lt_or_ge (Pk.toU n) 4294967296 with h4|h4
 ·exact packInt4 n w hG hb hl ⟨h2,h4⟩
 ·exact packInt8 n w hG hb hl h4

theorem packBlob {S S1:Nat->Prop} {v u:Value} {b p:List UInt8} (w:World) (hG:Gat w 2 formsC) (hb:Bs w S v b) (hl:b.length<=400000000000) (hp:Bs w S1 u p) (hl2:p.length<=400000000000) :
  Calls Tryd.prog 46 [v,u].toArray w (Ret (NewB 5 w (b++(Pk.int p.length++p)))):=by
 have hb0:=hb
 obtain ⟨A,c,rfl,_,_,hb⟩:=hb.op
 have hp0:=hp
 obtain ⟨B,d,rfl,_,_,hp⟩:=hp.op
 have hi:=Pk.len_int p.length
 refine kE (l:=[_,_]) Tryd.func46 U U ?_
 have H:=St.start nT w
 refine kR (sAs U (lkR (sMs U (sMs U (sLn U tu23 (sf (ecl Tryd.func42 U U (packInt _ _ (H.gat hG) (H.bs hb0) (by omega) (by omega)) ?_)))))))
 rw [Pk.toU_pos _ (by omega) (by omega),Int.toNat_natCast]
 rintro _ W ⟨A1,c1,rfl,hc1,hd1,hn⟩
 replace H:=H.new hn
 clear hn
 refine sMs U (sf (eap tu23 tx5 U U U H (H.rd hp) (all_u8L _) (by rw [List.length_append];omega) U ?_))
 clear H;intro A2 c2 W hc2 hd2 H
 refine sAs U (ln (kx ?_))
 exact qr (v:=.slice _ _ _) U U ⟨_,U,H.newB (by simp;omega) (by simp) hc2 hd2⟩

theorem packHash {S:Nat->Prop} {v:Value} {b h:List UInt8} (w:World) (hb:Bs w S v b) (hl:b.length<=400000000000) (hh:h.length=32) :
  Calls Tryd.prog 43 [v,.agg (h.map u8v).toArray].toArray w (Ret (NewB 5 w (b++h))):=by
 have hb0:=hb
 obtain ⟨A,c,rfl,_,_,hb⟩:=hb.op
 refine kE (l:=[_,_]) Tryd.func43 U U ?_
 have H:=St.start nT w
 refine kR (sf (ebx U U H ?_))
 clear H;intro g0_0 W H
 refine sAs U (lkR (sMs U (sR (d_arrA U U tu25 ts5) (sf (eN Tryd.func61 U U (behind _ (H.bs hb0) (Bs.mk (l:=h) (rd_blk H.blk (by simp;omega)) (by omega) (by omega)) (by omega)) H ?_)))))
 clear H;intro A1 c1 W hc1 hd1 H
 refine sAs U (ln (kx ?_))
 exact qr (v:=.slice _ _ _) U U ⟨_,U,H.newB U U hc1 hd1⟩

end Go.Proofs.YtjjodibkmeefpaaDoor
