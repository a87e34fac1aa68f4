import Derived.Test.YtjjodibkmeefpaaGreatDoorMV
import Derived.Test.YtjjodibkmeefpaaGreatDoorProg
import Derived.KernelRfl
set_option linter.unusedVariables false
set_option linter.unusedSimpArgs false
set_option maxHeartbeats 4000000

namespace Go.Proofs.YtjjodibkmeefpaaGreatDoor
open Go Go.RowKit
theorem ty1:((Tryz.prog.info? 1).bind (·.zero)).isSome=true:=by kernel_rfl
theorem ty2:((Tryz.prog.info? 2).bind (·.zero)).isSome=true:=by kernel_rfl
theorem tu3:Tryz.prog.underlying 3=some (.int .i64):=by kernel_rfl
theorem ts3:(Tryz.prog.info? 3).map (·.size)=some 1:=by kernel_rfl
theorem ta3:aggB Tryz.prog 3=some false:=by kernel_rfl
theorem tz3:((Tryz.prog.info? 3).bind (·.zero)).map (·.cells)=some (List.toArray [.int .i64 0]):=by kernel_rfl
theorem ty3:((Tryz.prog.info? 3).bind (·.zero)).isSome=true:=by kernel_rfl
theorem tu4:Tryz.prog.underlying 4=some (.bool):=by kernel_rfl
theorem ts4:(Tryz.prog.info? 4).map (·.size)=some 1:=by kernel_rfl
theorem ta4:aggB Tryz.prog 4=some false:=by kernel_rfl
theorem tz4:((Tryz.prog.info? 4).bind (·.zero)).map (·.cells)=some (List.toArray [.bool false]):=by kernel_rfl
theorem tu5:Tryz.prog.underlying 5=some (.int .u8):=by kernel_rfl
theorem ts5:(Tryz.prog.info? 5).map (·.size)=some 1:=by kernel_rfl
theorem ta5:aggB Tryz.prog 5=some false:=by kernel_rfl
theorem tz5:((Tryz.prog.info? 5).bind (·.zero)).map (·.cells)=some (List.toArray [.int .u8 0]):=by kernel_rfl
theorem ty5:((Tryz.prog.info? 5).bind (·.zero)).isSome=true:=by kernel_rfl
theorem tx5:(Tryz.prog.info? 5).map (fun i=>(i.zero.map (·.cells.size),i.size,i.bytes))=some (some 1,1,1):=by kernel_rfl
theorem tu9:Tryz.prog.underlying 9=some (.string):=by kernel_rfl
theorem tu22:Tryz.prog.underlying 22=some (.slice 76):=by kernel_rfl
theorem ta22:aggB Tryz.prog 22=some false:=by kernel_rfl
theorem tu23:Tryz.prog.underlying 23=some (.slice 5):=by kernel_rfl
theorem ts23:(Tryz.prog.info? 23).map (·.size)=some 1:=by kernel_rfl
theorem ta23:aggB Tryz.prog 23=some false:=by kernel_rfl
theorem ty23:((Tryz.prog.info? 23).bind (·.zero)).isSome=true:=by kernel_rfl
theorem tx23:(Tryz.prog.info? 23).map (fun i=>(i.zero.map (·.cells.size),i.size,i.bytes))=some (some 1,1,24):=by kernel_rfl
theorem tu25:Tryz.prog.underlying 25=some (.array 32 5):=by kernel_rfl
theorem ts25:(Tryz.prog.info? 25).map (·.size)=some 32:=by kernel_rfl
theorem ta25:aggB Tryz.prog 25=some true:=by kernel_rfl
theorem tz25:((Tryz.prog.info? 25).bind (·.zero)).map (·.cells)=some (List.toArray [.int .u8 0,.int .u8 0,.int .u8 0,.int .u8 0,.int .u8 0,.int .u8 0,.int .u8 0,.int .u8 0,.int .u8 0,.int .u8 0,.int .u8 0,.int .u8 0,.int .u8 0,.int .u8 0,.int .u8 0,.int .u8 0,.int .u8 0,.int .u8 0,.int .u8 0,.int .u8 0,.int .u8 0,.int .u8 0,.int .u8 0,.int .u8 0,.int .u8 0,.int .u8 0,.int .u8 0,.int .u8 0,.int .u8 0,.int .u8 0,.int .u8 0,.int .u8 0]):=by kernel_rfl
theorem ts27:(Tryz.prog.info? 27).map (·.size)=some 33:=by kernel_rfl
theorem ta27:aggB Tryz.prog 27=some true:=by kernel_rfl
theorem tz27:((Tryz.prog.info? 27).bind (·.zero)).map (·.cells)=some (List.toArray [.int .u8 0,.int .u8 0,.int .u8 0,.int .u8 0,.int .u8 0,.int .u8 0,.int .u8 0,.int .u8 0,.int .u8 0,.int .u8 0,.int .u8 0,.int .u8 0,.int .u8 0,.int .u8 0,.int .u8 0,.int .u8 0,.int .u8 0,.int .u8 0,.int .u8 0,.int .u8 0,.int .u8 0,.int .u8 0,.int .u8 0,.int .u8 0,.int .u8 0,.int .u8 0,.int .u8 0,.int .u8 0,.int .u8 0,.int .u8 0,.int .u8 0,.int .u8 0,.int .i64 0]):=by kernel_rfl
theorem tf27_0:fOff Tryz.prog 27 0=some (0,25):=by kernel_rfl
theorem tf27_1:fOff Tryz.prog 27 1=some (32,3):=by kernel_rfl
theorem ts29:(Tryz.prog.info? 29).map (·.size)=some 98:=by kernel_rfl
theorem ta29:aggB Tryz.prog 29=some true:=by kernel_rfl
theorem tf29_0:fOff Tryz.prog 29 0=some (0,23):=by kernel_rfl
theorem tf29_1:fOff Tryz.prog 29 1=some (1,27):=by kernel_rfl
theorem tf29_2:fOff Tryz.prog 29 2=some (34,25):=by kernel_rfl
theorem tf29_3:fOff Tryz.prog 29 3=some (66,25):=by kernel_rfl
theorem tu34:Tryz.prog.underlying 34=some (.slice 43):=by kernel_rfl
theorem ts34:(Tryz.prog.info? 34).map (·.size)=some 1:=by kernel_rfl
theorem ta34:aggB Tryz.prog 34=some false:=by kernel_rfl
theorem tz34:((Tryz.prog.info? 34).bind (·.zero)).map (·.cells)=some (List.toArray [.slice none 0 0]):=by kernel_rfl
theorem tu36:Tryz.prog.underlying 36=some (.slice 83):=by kernel_rfl
theorem ts41:(Tryz.prog.info? 41).map (·.size)=some 2:=by kernel_rfl
theorem ta41:aggB Tryz.prog 41=some true:=by kernel_rfl
theorem tz41:((Tryz.prog.info? 41).bind (·.zero)).map (·.cells)=some (List.toArray [.int .i64 0,.slice none 0 0]):=by kernel_rfl
theorem ty41:((Tryz.prog.info? 41).bind (·.zero)).isSome=true:=by kernel_rfl
theorem tx41:(Tryz.prog.info? 41).map (fun i=>(i.zero.map (·.cells.size),i.size,i.bytes))=some (some 2,2,32):=by kernel_rfl
theorem tf41_0:fOff Tryz.prog 41 0=some (0,3):=by kernel_rfl
theorem tf41_1:fOff Tryz.prog 41 1=some (1,23):=by kernel_rfl
theorem ts43:(Tryz.prog.info? 43).map (·.size)=some 36:=by kernel_rfl
theorem tz43:((Tryz.prog.info? 43).bind (·.zero)).map (·.cells)=some (List.toArray [.int .u8 0,.int .u8 0,.int .u8 0,.int .u8 0,.int .u8 0,.int .u8 0,.int .u8 0,.int .u8 0,.int .u8 0,.int .u8 0,.int .u8 0,.int .u8 0,.int .u8 0,.int .u8 0,.int .u8 0,.int .u8 0,.int .u8 0,.int .u8 0,.int .u8 0,.int .u8 0,.int .u8 0,.int .u8 0,.int .u8 0,.int .u8 0,.int .u8 0,.int .u8 0,.int .u8 0,.int .u8 0,.int .u8 0,.int .u8 0,.int .u8 0,.int .u8 0,.int .i64 0,.int .i64 0,.slice none 0 0,.int .i64 0]):=by kernel_rfl
theorem ty43:((Tryz.prog.info? 43).bind (·.zero)).isSome=true:=by kernel_rfl
theorem tx43:(Tryz.prog.info? 43).map (fun i=>(i.zero.map (·.cells.size),i.size,i.bytes))=some (some 36,36,80):=by kernel_rfl
theorem tf43_0:fOff Tryz.prog 43 0=some (0,27):=by kernel_rfl
theorem tf43_1:fOff Tryz.prog 43 1=some (33,41):=by kernel_rfl
theorem tf43_2:fOff Tryz.prog 43 2=some (35,3):=by kernel_rfl
theorem tu44:Tryz.prog.underlying 44=some (.slice 71):=by kernel_rfl
theorem ts44:(Tryz.prog.info? 44).map (·.size)=some 1:=by kernel_rfl
theorem ta44:aggB Tryz.prog 44=some false:=by kernel_rfl
theorem tu45:Tryz.prog.underlying 45=some (.slice 41):=by kernel_rfl
theorem ts45:(Tryz.prog.info? 45).map (·.size)=some 1:=by kernel_rfl
theorem ta45:aggB Tryz.prog 45=some false:=by kernel_rfl
theorem ts47:(Tryz.prog.info? 47).map (·.size)=some 3:=by kernel_rfl
theorem ta47:aggB Tryz.prog 47=some true:=by kernel_rfl
theorem tz47:((Tryz.prog.info? 47).bind (·.zero)).map (·.cells)=some (List.toArray [.slice none 0 0,.slice none 0 0,.int .i64 0]):=by kernel_rfl
theorem ty47:((Tryz.prog.info? 47).bind (·.zero)).isSome=true:=by kernel_rfl
theorem tx47:(Tryz.prog.info? 47).map (fun i=>(i.zero.map (·.cells.size),i.size,i.bytes))=some (some 3,3,56):=by kernel_rfl
theorem tf47_0:fOff Tryz.prog 47 0=some (0,44):=by kernel_rfl
theorem tf47_1:fOff Tryz.prog 47 1=some (1,45):=by kernel_rfl
theorem tf47_2:fOff Tryz.prog 47 2=some (2,3):=by kernel_rfl
theorem ts49:(Tryz.prog.info? 49).map (·.size)=some 5:=by kernel_rfl
theorem ta49:aggB Tryz.prog 49=some true:=by kernel_rfl
theorem tz49:((Tryz.prog.info? 49).bind (·.zero)).map (·.cells)=some (List.toArray [.slice none 0 0,.slice none 0 0,.int .i64 0,.int .i64 0,.int .i64 0]):=by kernel_rfl
theorem tf49_0:fOff Tryz.prog 49 0=some (0,47):=by kernel_rfl
theorem tf49_1:fOff Tryz.prog 49 1=some (3,3):=by kernel_rfl
theorem tf49_2:fOff Tryz.prog 49 2=some (4,3):=by kernel_rfl
theorem ts52:(Tryz.prog.info? 52).map (·.size)=some 5:=by kernel_rfl
theorem ta52:aggB Tryz.prog 52=some true:=by kernel_rfl
theorem tz52:((Tryz.prog.info? 52).bind (·.zero)).map (·.cells)=some (List.toArray [.slice none 0 0,.slice none 0 0,.int .i64 0,.int .i64 0,.int .i64 0]):=by kernel_rfl
theorem tf52_0:fOff Tryz.prog 52 0=some (0,47):=by kernel_rfl
theorem tf52_1:fOff Tryz.prog 52 1=some (3,3):=by kernel_rfl
theorem tf52_2:fOff Tryz.prog 52 2=some (4,3):=by kernel_rfl
theorem tu66:Tryz.prog.underlying 66=some (.slice 23):=by kernel_rfl
theorem ts66:(Tryz.prog.info? 66).map (·.size)=some 1:=by kernel_rfl
theorem ta66:aggB Tryz.prog 66=some false:=by kernel_rfl
theorem ts71:(Tryz.prog.info? 71).map (·.size)=some 34:=by kernel_rfl
theorem ta71:aggB Tryz.prog 71=some true:=by kernel_rfl
theorem tz71:((Tryz.prog.info? 71).bind (·.zero)).map (·.cells)=some (List.toArray [.int .u8 0,.int .u8 0,.int .u8 0,.int .u8 0,.int .u8 0,.int .u8 0,.int .u8 0,.int .u8 0,.int .u8 0,.int .u8 0,.int .u8 0,.int .u8 0,.int .u8 0,.int .u8 0,.int .u8 0,.int .u8 0,.int .u8 0,.int .u8 0,.int .u8 0,.int .u8 0,.int .u8 0,.int .u8 0,.int .u8 0,.int .u8 0,.int .u8 0,.int .u8 0,.int .u8 0,.int .u8 0,.int .u8 0,.int .u8 0,.int .u8 0,.int .u8 0,.int .i64 0,.slice none 0 0]):=by kernel_rfl
theorem ty71:((Tryz.prog.info? 71).bind (·.zero)).isSome=true:=by kernel_rfl
theorem tx71:(Tryz.prog.info? 71).map (fun i=>(i.zero.map (·.cells.size),i.size,i.bytes))=some (some 34,34,64):=by kernel_rfl
theorem tf71_0:fOff Tryz.prog 71 0=some (0,27):=by kernel_rfl
theorem tf71_1:fOff Tryz.prog 71 1=some (33,66):=by kernel_rfl
theorem ts73:(Tryz.prog.info? 73).map (·.size)=some 65:=by kernel_rfl
theorem ta73:aggB Tryz.prog 73=some true:=by kernel_rfl
theorem tu74:Tryz.prog.underlying 74=some (.slice 47):=by kernel_rfl
theorem ta74:aggB Tryz.prog 74=some false:=by kernel_rfl
theorem ts76:(Tryz.prog.info? 76).map (·.size)=some 66:=by kernel_rfl
theorem ta76:aggB Tryz.prog 76=some true:=by kernel_rfl
theorem ty76:((Tryz.prog.info? 76).bind (·.zero)).isSome=true:=by kernel_rfl
theorem tx76:(Tryz.prog.info? 76).map (fun i=>(i.zero.map (·.cells.size),i.size,i.bytes))=some (some 66,66,96):=by kernel_rfl
theorem tf76_0:fOff Tryz.prog 76 0=some (0,73):=by kernel_rfl
theorem tf76_1:fOff Tryz.prog 76 1=some (65,74):=by kernel_rfl
theorem ts83:(Tryz.prog.info? 83).map (·.size)=some 36:=by kernel_rfl
theorem tz83:((Tryz.prog.info? 83).bind (·.zero)).map (·.cells)=some (List.toArray [.int .u8 0,.int .u8 0,.int .u8 0,.int .u8 0,.int .u8 0,.int .u8 0,.int .u8 0,.int .u8 0,.int .u8 0,.int .u8 0,.int .u8 0,.int .u8 0,.int .u8 0,.int .u8 0,.int .u8 0,.int .u8 0,.int .u8 0,.int .u8 0,.int .u8 0,.int .u8 0,.int .u8 0,.int .u8 0,.int .u8 0,.int .u8 0,.int .u8 0,.int .u8 0,.int .u8 0,.int .u8 0,.int .u8 0,.int .u8 0,.int .u8 0,.int .u8 0,.int .i64 0,.int .i64 0,.slice none 0 0,.int .i64 0]):=by kernel_rfl
theorem ty83:((Tryz.prog.info? 83).bind (·.zero)).isSome=true:=by kernel_rfl
theorem tx83:(Tryz.prog.info? 83).map (fun i=>(i.zero.map (·.cells.size),i.size,i.bytes))=some (some 36,36,80):=by kernel_rfl
theorem tf83_0:fOff Tryz.prog 83 0=some (0,27):=by kernel_rfl
theorem tf83_1:fOff Tryz.prog 83 1=some (33,41):=by kernel_rfl
theorem tf83_2:fOff Tryz.prog 83 2=some (35,3):=by kernel_rfl
theorem tu109:Tryz.prog.underlying 109=some (.int .u64):=by kernel_rfl
theorem ta109:aggB Tryz.prog 109=some false:=by kernel_rfl
theorem ts144:(Tryz.prog.info? 144).map (·.size)=some 1:=by kernel_rfl
theorem ta144:aggB Tryz.prog 144=some false:=by kernel_rfl
theorem tz144:((Tryz.prog.info? 144).bind (·.zero)).map (·.cells)=some (List.toArray [.nilFunc]):=by kernel_rfl
theorem ts152:(Tryz.prog.info? 152).map (·.size)=some 3:=by kernel_rfl
theorem ta152:aggB Tryz.prog 152=some true:=by kernel_rfl
theorem tz152:((Tryz.prog.info? 152).bind (·.zero)).map (·.cells)=some (List.toArray [.int .u8 0,.int .i64 0,.int .u64 0]):=by kernel_rfl
theorem tf152_0:fOff Tryz.prog 152 0=some (0,5):=by kernel_rfl
theorem tf152_1:fOff Tryz.prog 152 1=some (1,3):=by kernel_rfl
theorem tf152_2:fOff Tryz.prog 152 2=some (2,109):=by kernel_rfl
theorem tu153:Tryz.prog.underlying 153=some (.array 3 152):=by kernel_rfl
theorem tu155:Tryz.prog.underlying 155=some (.slice 152):=by kernel_rfl
end Go.Proofs.YtjjodibkmeefpaaGreatDoor

namespace Go.Proofs.YtjjodibkmeefpaaGreatDoor
open Go Go.RowKit
attribute [local irreducible] wpList

theorem copyBytes {S:Nat->Prop} (v:Value) (l:List UInt8) (w:World) (ha:Bs w S v l) (hl:l.length<=1000000000000) :
  Calls Tryz.prog 28 [v].toArray w (Ret (NewB 5 w l)):=by
 obtain ⟨A,c,rfl,hc,hc2,ha⟩:=ha.op
 refine kE (l:=[_]) Tryz.func28 U U ?_
 have H:=St.start nT w
 refine kR (sAs U (lkR (sAs U (ln ?_))))
 replace H:=H.nilrow 5 1
 refine kQ (kR (sAi U (ln (kb (kL 3 [] (fun mm sl W=>∃k:Nat,∃B:Option Addr,∃d:Nat,l.length - k=mm∧sl=[(4,.int .i64 (k:Int)),(3,.slice B k d)]∧(k<=l.length)∧(k<=d∧d<=9223372036854775807)∧St nT w W [Fact.row 5 1 (.slice B k d) k ((l.take k).map u8v)]) _ _ ⟨0,none,0,U,U,Nat.zero_le _,⟨Nat.le_refl _,by omega⟩,H⟩ ⟨U,U,trivial⟩ (fun mm sl ρv W hJ=>?_))))))
 clear H;obtain ⟨k,B,d,rfl,rfl,hk,hd,H⟩:=hJ
 refine ko (kQ (kR (sMi U (sMs U (sLn U tu23 (sLt U U (ln (kC U (fun hc8=>?_) (fun hc8=>?_)))))))))
 ·first|(replace hc8:=of_decide_eq_true hc8)|simp at hc8
  refine kS (kQ (kb ?_))
  have hlt:k+1<=l.length:=by omega
  refine kr (sMs U (sMs U (sMi U (sR (d_iaB U (H.rd ha) U U U (by omega) tu23 ts5) (sR (d_ldB U (H.rd ha) (l_get (by omega)) U ta5) (sf (ebs (xs:=[.tmp 15]) (vals:=[.int .u8 _]) (vs:=[.int .u8 _]) U U U U tu23 ts5 ty5 U U U H ?_)))))))
  clear H;intro g5_5 W H
  refine sf (eap tu23 tx5 U U U H (rd_blk H.blk U) (U) (by omega) U ?_)
  clear H;intro A1 c1 W hc1 hd1 H
  replace H:=H.drop
  refine sAs U (ln (kn (zE (kI U U U (by omega) U (kn (kY ?_))))))
  refine ⟨_,_,_,?_,U,?_,?_,⟨k+1,A1,c1,U,U,hlt,⟨hc1,hd1⟩,by rw [take_u8 hlt];exact H⟩⟩
  ·omega
  ·with_reducible repeat first|exact .refl|refine .f ?_ ?_ ?_;kernel_rfl;kernel_rfl|refine .u ?_ ?_;kernel_rfl
  ·refine ⟨?_,?_,trivial⟩
   ·exact vi (by omega)
   ·exact U
 ·first|(replace hc8:=of_decide_eq_false hc8)|simp at hc8
  refine ke (xQ (xQ ?_))
  refine xH (kQ ?_)
  obtain rfl:k=l.length:=by omega
  rw [List.take_length] at H
  refine kr (sMs U (sAs U (ln (kx ?_))))
  refine qr (v:=.slice _ _ _) U U ⟨_,U,B,d,U,hd.1,hd.2,?_⟩
  exact H.give

theorem u8_eq {z:Int} {n:Nat} (h:z=n):IntKind.u8.wrap z=((UInt8.ofNat n).toNat:Int):=by subst h;rw [IntKind.wrap_u8];simp
theorem eqb {a b:UInt8}:((a.toNat:Int) == (b.toNat:Int))=(a == b):=by
 rw [Bool.eq_iff_iff,beq_iff_eq,beq_iff_eq,Int.ofNat_inj,UInt8.toNat_inj]

theorem markBytes (i:Nat) (z:Int) (w:World) (hz:z=(i:Int)) (h1:i<=1000000000000000) :
  Calls Tryz.prog 31 [.int .i64 z].toArray w (Ret (Is w (u8v (UInt8.ofNat (201+7*i))))):=by
 subst hz
 refine kE (l:=[_]) Tryz.func31 U U ?_
 have H:=St.start nT w
 refine kR (sAi U (lkR (sMi U (sR (d_mul U U U (by omega)) (sAd U U (by omega) (sR (d_conv U U (by rw [tu3];rfl) tu5 (u8_eq (n:=201+7*i) (by omega))) ?_))))))
 refine sAi U (ln (kx ?_))
 exact qr (v:=.int _ _) U U ⟨_,U,U,Below.refl _ _⟩

def marks (k:Nat):List UInt8:=(List.range k).map fun i=>UInt8.ofNat (201+7*i)
theorem marks_succ (k:Nat):marks (k+1)=marks k++[UInt8.ofNat (201+7*k)]:=by simp [marks,List.range_succ]
theorem marks_len (k:Nat):(marks k).length=k:=by simp [marks]
theorem map_snoc (a b:List UInt8) (x:UInt8):(a++(b++[x])).map u8v=(a++b).map u8v++[u8v x]:=by simp

theorem lentBytes {S:Nat->Prop} (v:Value) (l:List UInt8) (w:World) (ha:Bs w S v l) (hl:l.length<=1000000000000) :
  Calls Tryz.prog 8 [v].toArray w (Ret (NewB 5 w (l++marks 5))):=by
 have ha0:=ha
 obtain ⟨A,c,rfl,_,_,_⟩:=ha.op
 refine kE (l:=[_]) Tryz.func8 U U ?_
 have H:=St.start nT w
 refine kR (sAs U (lkR (sMs U (sf (eN Tryz.func28 U U (copyBytes _ l _ (H.bs ha0) hl) H ?_)))))
 clear H;intro A1 c1 W hc1 hd1 H
 refine sAs U (ln (kQ (kR (sAi U (ln (kb (kL 7 [3,4] (fun mm sl W=>∃k:Nat,∃B:Option Addr,∃d:Nat,5 - k=mm∧sl=[(4,.int .i64 (k:Int)),(3,.slice B (l.length+k) d)]∧(k<=5)∧(l.length+k<=d∧d<=9223372036854775807)∧St nT w W [Fact.row 5 1 (.slice B (l.length+k) d) (l.length+k) ((l++marks k).map u8v)]) _ _ ⟨0,A1,c1,U,U,by omega,⟨hc1,hd1⟩,by rw [show marks 0=[] from U,List.append_nil];exact H⟩ ⟨U,U,trivial⟩ (fun mm sl ρv W hJ=>?_))))))))
 clear H;obtain ⟨k,B,d,rfl,rfl,hk,hd,H⟩:=hJ
 refine ko (kQ (kR (sMi U (sLt U U (ln (kC U (fun hc8=>?_) (fun hc8=>?_)))))))
 ·first|(replace hc8:=of_decide_eq_true hc8)|simp at hc8
  refine kS (kQ (kb (kr (sMs U (sMi U (sf (eI Tryz.func31 U U (markBytes k _ _ U (by omega)) H ?_)))))))
  clear H;intro W H
  refine sf (ebs (xs:=[.tmp 13]) (vals:=[.int .u8 _]) (vs:=[.int .u8 _]) U U U U tu23 ts5 ty5 U U U H ?_)
  clear H;intro g5_3 W H
  refine sf (eap tu23 tx5 U U U H (rd_blk H.blk U) (U) (by omega) U ?_)
  clear H;intro A2 c2 W hc2 hd2 H
  replace H:=H.drop
  refine sAs U (ln (kn (zE (kI U U U (by omega) U (kn (kY ?_))))))
  refine ⟨_,_,_,?_,U,?_,?_,⟨k+1,A2,c2,U,U,by omega,⟨hc2,hd2⟩,by rw [marks_succ,map_snoc];exact H⟩⟩
  ·omega
  ·with_reducible repeat first|exact .refl|refine .f ?_ ?_ ?_;kernel_rfl;kernel_rfl|refine .u ?_ ?_;kernel_rfl
  ·refine ⟨?_,?_,trivial⟩
   ·exact vi (by omega)
   ·exact U
 ·first|(replace hc8:=of_decide_eq_false hc8)|simp at hc8
  refine ke (xQ (xQ ?_))
  refine xH (kQ ?_)
  obtain rfl:k=5:=by omega
  refine kr (sMs U (sAs U (ln (kx ?_))))
  refine qr (v:=.slice _ _ _) U U ⟨_,U,B,d,?_⟩
  have e:(l++marks 5).length=l.length+5:=by rw [List.length_append,marks_len]
  rw [e]
  exact ⟨U,hd.1,hd.2,H.give⟩

theorem sameBytes {S S':Nat->Prop} (v u:Value) (l r:List UInt8) (w:World) (ha:Bs w S v l) (hb:Bs w S' u r) :
  Calls Tryz.prog 35 [v,u].toArray w (Ret (Is w (.bool (decide (l=r))))):=by
 have hn:=ha.len
 have hm:=hb.len
 obtain ⟨A,c,rfl,_,_,ha⟩:=ha.op
 obtain ⟨B,d,rfl,_,_,hb⟩:=hb.op
 refine kE (l:=[_,_]) Tryz.func35 U U ?_
 have H:=St.start nT w
 refine kR (sAb U (ln (kQ (kR (sMs U (sLn U tu23 (sMs U (sLn U tu23 (sNe U U (ln (kC U (fun hc10=>?_) (fun hc10=>?_))))))))))))
 ·simp at hc10
  refine kR (sAb U (ln (kx ?_)))
  refine qr (v:=.bool _) U U ⟨_,U,vb ?_,H.under⟩
  exact (decide_eq_false fun h=>hc10 (by rw [h])).symm
 ·simp at hc10
  refine kS (kQ (kR (sAi U (ln (kb (kL 11 [4,5] (fun mm sl W=>∃k:Nat,l.length - k=mm∧sl=[(5,.int .i64 (k:Int))]∧(k<=l.length)∧(l.take k=r.take k)∧St nT w W []) _ _ ⟨0,U,U,Nat.zero_le _,U,H⟩ ⟨U,trivial⟩ (fun mm sl ρv W hJ=>?_)))))))
  clear H;obtain ⟨k,rfl,rfl,hk,ht,H⟩:=hJ
  refine ko (kQ (kR (sMi U (sMs U (sLn U tu23 (sLt U U (ln (kC U (fun hc14=>?_) (fun hc14=>?_)))))))))
  ·first|(replace hc14:=of_decide_eq_true hc14)|simp at hc14
   refine kS (kQ (kb (kQ (k_draw [(0,true),(1,true),(2,true),(3,true),(4,true),(5,true),(6,true),(7,true),(8,true),(9,true)] _ (by kernel_rfl) (by kernel_rfl) H (.refl _) ?_))))
   clear H;intro W H
   refine cMs U U (cMi U U (cR U (fun W H=>d_iaB U (H.rd ha) U U U (by omega) tu23 ts5) (cR U (fun W H=>d_ldB U (H.rd ha) (l_get (by omega)) U ta5) (cMs U U (cMi U U (cR U (fun W H=>d_iaB U (H.rd hb) U U U (by omega) tu23 ts5) (cR U (fun W H=>d_ldB U (H.rd hb) (l_get (by omega)) U ta5) (cR U (fun W H=>d_eq U U U) (cR U (fun W H=>d_not U U) (c_nil (kC U (fun hc26=>?_) (fun hc26=>?_))))))))))))
   ·rw [eqb,Bool.not_eq_true',beq_eq_false_iff_ne] at hc26
    refine kR (sAb U (ln (kx ?_)))
    refine qr (v:=.bool _) U U ⟨_,U,vb ?_,H.under⟩
    exact (decide_eq_false fun h=>hc26 (by rw [h])).symm
   ·rw [eqb,Bool.not_eq_false',beq_iff_eq] at hc26
    refine kS (kn (zE (kI U U U (by omega) U (kn (kY ?_)))))
    refine ⟨_,_,_,?_,U,?_,?_,⟨k+1,U,U,by omega,by rw [List.take_add_one,List.take_add_one,ht,l_get (by omega),l_get (by omega),hc26],H⟩⟩
    ·omega
    ·with_reducible repeat first|exact .refl|refine .f ?_ ?_ ?_;kernel_rfl;kernel_rfl|refine .u ?_ ?_;kernel_rfl
    ·refine ⟨?_,trivial⟩
     ·exact vi (by omega)
  ·first|(replace hc14:=of_decide_eq_false hc14)|simp at hc14
   refine ke (xQ (xQ ?_))
   refine xH (kR (sAb U (ln (kx ?_))))
   refine qr (v:=.bool _) U U ⟨_,U,vb ?_,H.under⟩
   rw [List.take_of_length_le (by omega),List.take_of_length_le (by omega)] at ht
   simp [ht]

def rowL (k:Nat):List UInt8:=(List.range k).map fun i=>UInt8.ofNat ((7+i) % 251)
def pick (v n:Int):Int:=if n<1 then 0 else v % n

theorem sl_eq {A:Option Addr} {m n c:Nat} (h:m=n):Value.slice A m c=.slice A n c:=by rw [h]
def formsC:List Value:=[.int .u8 253,.int .i64 2,.int .u64 253,.int .u8 254,.int .i64 4,.int .u64 65536,.int .u8 255,.int .i64 8,.int .u64 4294967296]

theorem grow_nil (q:Nat) (z:Int) (w:World) (hz:z=(q:Int)) (hq:q<=1099511627776) :
  Calls Tryz.prog 109 [.slice none 0 0,.int .i64 z].toArray w (Ret fun v w'=>∃A c,v=.slice A 0 c∧c<=9223372036854775807∧New w w' (Fact.row 5 1 (.slice A 0 c) 0 [])):=by
 subst hz
 refine kE (l:=[_,_]) Tryz.func109 U U ?_
 have H:=St.start nT w
 refine kR (sAs U (ln (kQ (kR (sMi U (sLt U U (ln (kF U (by first|(simp;done)|(simp;omega)) ?_))))))))
 refine kS (kQ (kR (sMi U (sMs U (sR (d_cap U U tu23) (sMs U (sLn U tu23 (sR (d_sub U U U (by omega)) (sR (d_sub U U U (by omega)) (sAi U (lkR (sMi U ?_))))))))))))
 refine sR (d_gt U U U) (ln (kC U (fun hc16=>?_) (fun hc16=>?_)))
 ·first|(replace hc16:=of_decide_eq_true hc16)|simp at hc16
  refine kr (sMs U (sMs U (sR (d_cap U U tu23) (sR (d_cutP U U (h:=0) U (by omega) U tu23 ts5) (sMi U (sf (e_appz (wn U) U U tu23 tu3 (by kernel_rfl) U U (q:=q) (by omega) (by omega) (by omega) H ?_)))))))
  clear H;intro A1 c1 W hc1 hd1 H
  refine sMs U (sLn U tu23 ?_)
  have hs:A1.isSome=true:=row_some (H.rowrd (A:=A1)) (by omega)
  replace H:=H.rowcut (q:=0) (Nat.zero_le _) hs
  rw [Nat.zero_mul,List.take_zero] at H
  refine sR (d_cutP U U (h:=0) U (by omega) U tu23 ts5) (sAs U (lkR (sMs U (sAs U (ln (kx ?_))))))
  exact qr (v:=.slice _ _ _) U U ⟨_,U,_,_,U,hd1,H.give⟩
 ·first|(replace hc16:=of_decide_eq_false hc16)|simp at hc16
  refine kS (kR (sMs U (sAs U (ln (kx ?_)))))
  replace H:=H.nilrow 5 1
  exact qr (v:=.slice _ _ _) U U ⟨_,U,_,_,U,by omega,H.give⟩

theorem concat2 {S S1 S2:Nat->Prop} {A B C:Option Addr} {n m c d e:Nat} {l r:List UInt8} (w:World) (hs:Rd w S 1 C 2 [.slice A n c,.slice B m d]) (ha:Rd w S1 1 A n (l.map u8v)) (hb:Rd w S2 1 B m (r.map u8v)) (hl:n+m<=1000000000000) :
  Calls Tryz.prog 108 [.slice C 2 e].toArray w (Ret (NewB 5 w (l++r))):=by
 have hn:l.length=n:=by simpa using ha.1
 have hm:r.length=m:=by simpa using hb.1
 refine kE (l:=[_]) Tryz.func108 U U ?_
 have H:=St.start nT w
 refine kR (sAs U (lkR (sAi U (ln (kQ (kR (sMs U (sLn U tu66 (sMi U (ln (kb (k_unr (ko ?_)))))))))))))
 refine kR (sLt U U (ln (kQ (kT U (by first|(simp;done)|(simp;omega)) ?_))))
 refine kS (kQ (kb (kR (sR (d_iaS U (H.rd hs) U U (q:=0) U (by omega) tu66 ts23) (sR (d_ldR0 U (H.rd hs) U ta23 U) (sAs U (lkR (sMi U (sMs U (sLn U tu23 (sAd U U (by omega) (sAi U ?_))))))))))))
 refine lkR (sMi U (sLt U U (ln (kF U (by first|(simp;done)|(simp;omega)) ?_))))
 refine kS (kn (zE (kr (sAd U U (by omega) (sMi U (ln (kn (kY (hd_of (ko ?_))))))))))
 refine kR (sLt U U (ln (kQ (kT U (by first|(simp;done)|(simp;omega)) ?_))))
 refine kS (kQ (kb (kR (sR (d_iaS U (H.rd hs) U U (q:=1) U (by omega) tu66 ts23) (sR (d_ldR0 U (H.rd hs) U ta23 U) (sAs U (lkR (sMi U (sMs U (sLn U tu23 (sAd U U (by omega) (sAi U ?_))))))))))))
 refine lkR (sMi U (sLt U U (ln (kF U (by first|(simp;done)|(simp;omega)) ?_))))
 refine kS (kn (zE (kr (sAd U U (by omega) (sMi U (ln (kn (kY (hd_of (ko ?_))))))))))
 refine kR (sLt U U (ln (kQ (kF U (by first|(simp;done)|(simp;omega)) ?_))))
 refine ke (xQ (xQ ?_))
 refine xH (kR (sMi U (sf (ecl Tryz.func109 U U (grow_nil (n+m) _ _ (by omega) (by omega)) ?_))))
 rintro _ W ⟨A1,c1,rfl,hd1,hn1⟩
 replace H:=H.new hn1
 clear hn1
 refine sAs U (ln (kQ (kR (sMs U (sLn U tu66 (sMi U (ln (kb (k_unr (ko ?_))))))))))
 refine kR (sLt U U (ln (kQ (kT U (by first|(simp;done)|(simp;omega)) ?_))))
 refine kS (kQ (kb (kR (sR (d_iaS U (H.rd hs) U U (q:=0) U (by omega) tu66 ts23) (sR (d_ldR0 U (H.rd hs) U ta23 U) (sAs U (ln (kr (sMs U (sMs U (sf (eap tu23 tx5 U U U H (H.rd ha) (all_u8L _) (by omega) U ?_))))))))))))
 clear H;intro A2 c2 W hc2 hd2 H
 refine sAs U (ln (kn (zE (kr (sAd U U (by omega) (sMi U (ln (kn (kY (hd_of (ko ?_)))))))))))
 refine kR (sLt U U (ln (kQ (kT U (by first|(simp;done)|(simp;omega)) ?_))))
 refine kS (kQ (kb (kR (sR (d_iaS U (H.rd hs) U U (q:=1) U (by omega) tu66 ts23) (sR (d_ldR0 U (H.rd hs) U ta23 U) (sAs U (ln (kr (sMs U (sMs U (sf (eap tu23 tx5 U U U H (H.rd hb) (all_u8L _) (by omega) U ?_))))))))))))
 clear H;intro A3 c3 W hc3 hd3 H
 refine sAs U (ln (kn (zE (kr (sAd U U (by omega) (sMi U (ln (kn (kY (hd_of (ko ?_)))))))))))
 refine kR (sLt U U (ln (kQ (kF U (by first|(simp;done)|(simp;omega)) ?_))))
 refine ke (xQ (xQ ?_))
 refine xH (kR (sMs U (sAs U (ln (kx ?_)))))
 exact qr (v:=.slice _ _ _) U U ⟨_,U,H.newB (by simp;omega) (by simp) hc3 hd3⟩

theorem behind {S1 S2:Nat->Prop} {v u:Value} {l r:List UInt8} (w:World) (ha:Bs w S1 v l) (hb:Bs w S2 u r) (hl:l.length+r.length<=1000000000000) :
  Calls Tryz.prog 99 [v,u].toArray w (Ret (NewB 5 w (l++r))):=by
 obtain ⟨A,c,rfl,_,_,ha⟩:=ha.op
 obtain ⟨B,d,rfl,_,_,hb⟩:=hb.op
 refine kE (l:=[_,_]) Tryz.func99 U U ?_
 have H:=St.start nT w
 refine kR (sAs U (lkR (sMs U (sMs U (sf (ebs (xs:=[.tmp 5,.tmp 6]) (vals:=[.slice _ _ _,.slice _ _ _]) (vs:=[.slice _ _ _,.slice _ _ _]) U U U U tu66 ts23 ty23 U U U H ?_))))))
 clear H;intro g1_2 W H
 refine sf (eN Tryz.func108 U U (concat2 _ (rd_blk H.blk U) (H.rd ha) (H.rd hb) hl) H ?_)
 clear H;intro A1 c1 W hc1 hd1 H
 refine sAs U (ln (kx ?_))
 exact qr (v:=.slice _ _ _) U U ⟨_,U,H.newB U U hc1 hd1⟩

theorem packInt1 {S:Nat->Prop} {v:Value} {b:List UInt8} (n:Int) (w:World) (hG:Gat w 2 formsC) (hb:Bs w S v b) (hn : -9223372036854775808<=n∧n<=9223372036854775807) (hl:b.length<=500000000000) (hu:Pk.toU n<253) :
  Calls Tryz.prog 75 [v,.int .i64 n].toArray w (Ret (NewB 5 w (b++Pk.int (Pk.toU n)))):=by
 have hc:=u64_wrap n
 have hcast:=Pk.toU_cast n
 have hlt:=Pk.toU_lt n
 generalize Pk.toU n=u at *
 have hb0:=hb
 obtain ⟨A,c,rfl,_,_,_⟩:=hb.op
 refine kE (l:=[_,_]) Tryz.func75 U U ?_
 have H:=St.start nT w
 refine kR (sAs U (lkR (sMi U (sR (d_conv U U (by rw [tu3];rfl) tu109 hc) ?_))))
 refine sAi U (ln (kQ (kR (sMi U (sR (d_iaA U U U (q:=0) U tu153 (by omega) ts152) (sFa U tf152_2 (sR (d_ldG U (H.gat hG) U ta109 U) (sLt U U (ln (kT U (by first|(simp;done)|(simp;omega)) ?_))))))))))
 refine kR (sMs U (sMi U (sR (d_conv U U (by rw [tu3];rfl) tu5 (u8_eq (n:=u) (by omega))) ?_)))
 refine sf (ebs (xs:=[.tmp 20]) (vals:=[.int .u8 _]) (vs:=[.int .u8 _]) U U U U tu23 ts5 ty5 U U U H ?_)
 clear H;intro g3_3 W H
 refine sf (eN Tryz.func99 U U (behind _ (H.bs hb0) (Bs.mk (l:=[UInt8.ofNat u]) (rd_blk H.blk U) (by omega) (by omega)) (by simp;omega)) H ?_)
 clear H;intro A1 c1 W hc1 hd1 H
 refine sAs U (ln (kx ?_))
 exact qr (v:=.slice _ _ _) U U ⟨_,U,H.newB (by rw [Pk.int_1 hu]) (by rw [Pk.int_1 hu]) hc1 hd1⟩

theorem packInt2 {S:Nat->Prop} {v:Value} {b:List UInt8} (n:Int) (w:World) (hG:Gat w 2 formsC) (hb:Bs w S v b) (hl:b.length<=500000000000) (hu:253<=Pk.toU n∧Pk.toU n<65536) :
  Calls Tryz.prog 75 [v,.int .i64 n].toArray w (Ret (NewB 5 w (b++Pk.int (Pk.toU n)))):=by
 have hc:=u64_wrap n
 have hcast:=Pk.toU_cast n
 have hlt:=Pk.toU_lt n
 generalize Pk.toU n=u at *
 have hb0:=hb
 obtain ⟨A,c,rfl,_,_,_⟩:=hb.op
 refine kE (l:=[_,_]) Tryz.func75 U U ?_
 have H:=St.start nT w
 refine kR (sAs U (lkR (sMi U (sR (d_conv U U (by rw [tu3];rfl) tu109 hc) ?_))))
 refine sAi U (ln (kQ (kR (sMi U (sR (d_iaA U U U (q:=0) U tu153 (by omega) ts152) (sFa U tf152_2 (sR (d_ldG U (H.gat hG) U ta109 U) (sLt U U (ln (kF U (by first|(simp;done)|(simp;omega)) ?_))))))))))
 refine kS (kR (sR (d_iaA U U U (q:=0) U tu153 (by omega) ts152) (sR (d_ldmG U (H.gat hG) U ta152 ts152 U) (sf (eal [.int .u8 0,.int .i64 0,.int .u64 0] tz152 H ?_)))))
 clear H;intro g4_2 W H
 refine sf (e_sto (wn U) U U U U U ts152 U H U ?_)
 clear H;intro W H
 refine ln (kQ (kR (sR (d_arrS U U U (l:=1) U tu153 (by omega) ts152) (sLn U tu155 (sMi U (ln (kb (k_unr (ko ?_)))))))))
 refine kR (sLt U U (ln (kQ (kT U (by first|(simp;done)|(simp;omega)) ?_))))
 refine kS (kQ (kb (kR (sR (d_iaS U ((H.gat hG).rd (i:=3) (s:=3) (q:=2) U) U U (q:=0) U (by decide) tu155 ts152) (sR (d_ldmR (q:=0) U ((H.gat hG).rd (i:=3) (s:=3) (q:=2) U) U ta152 ts152 (by decide) (by decide)) (sf (eal [.int .u8 0,.int .i64 0,.int .u64 0] tz152 H ?_)))))))
 clear H;intro g7_2 W H
 refine sf (e_sto (wn U) U U U U U ts152 U H U ?_)
 clear H;intro W H
 refine lkR (sMi U (sFa U tf152_2 (sR (d_ld U H U ta109 U) (sR (d_ge U U U) (ln (kF U (by first|(simp;done)|(simp;omega)) ?_))))))
 refine kS (kn (zE (kr (sAd U U (by omega) (sMi U (ln (kn (kY (hd_of (ko ?_))))))))))
 refine kR (sLt U U (ln (kQ (kT U (by first|(simp;done)|(simp;omega)) ?_))))
 refine kS (kQ (kb (kR (sR (d_iaS U ((H.gat hG).rd (i:=3) (s:=3) (q:=2) U) U U (q:=1) (by omega) (by decide) tu155 ts152) (sR (d_ldmR (q:=1) U ((H.gat hG).rd (i:=3) (s:=3) (q:=2) U) U ta152 ts152 (by decide) (by decide)) (sf (eal [.int .u8 0,.int .i64 0,.int .u64 0] tz152 H ?_)))))))
 clear H;intro g7_2 W H
 refine sf (e_sto (wn U) U U U U U ts152 U H U ?_)
 clear H;intro W H
 refine lkR (sMi U (sFa U tf152_2 (sR (d_ld U H U ta109 U) (sR (d_ge U U U) (ln (kF U (by first|(simp;done)|(simp;omega)) ?_))))))
 refine kS (kn (zE (kr (sAd U U (by omega) (sMi U (ln (kn (kY (hd_of (ko ?_))))))))))
 refine kR (sLt U U (ln (kQ (kF U (by first|(simp;done)|(simp;omega)) ?_))))
 refine ke (xQ (xQ ?_))
 refine xH (kR (sMs U (sFa U tf152_0 (sR (d_ld U H U ta5 U) (sf (ebs (xs:=[.tmp 39]) (vals:=[.int .u8 _]) (vs:=[.int .u8 _]) U U U U tu23 ts5 ty5 U U U H ?_))))))
 clear H;intro g11_3 W H
 refine sf (eN Tryz.func99 U U (behind _ (H.bs hb0) (Bs.mk (l:=[253]) (rd_blk H.blk U) (by omega) (by omega)) (by simp;omega)) H ?_)
 clear H;intro A1 c1 W hc1 hd1 H
 refine sAs U (ln (kQ (kR (sFa U tf152_1 (sR (d_ld U H U ta3 U) (sMi U (ln ?_)))))))
 replace H:=H.sub (L':=[_]) (.cons_cons _ (List.nil_sublist _))
 refine kb (kL 44 [9,10] (fun mm sl W=>∃k:Nat,∃B:Option Addr,∃d:Nat,2 - k=mm∧sl=[(44,.int .i64 (k:Int)),(9,.slice B (b.length+1+k) d)]∧(k<=2)∧(b.length+1+k<=d∧d<=9223372036854775807)∧St nT w W [Fact.row 5 1 (.slice B (b.length+1+k) d) (b.length+1+k) ((b++253::Pk.le u k).map u8v)]) _ _ ⟨0,A1,c1,U,U,by omega,⟨by simpa using hc1,hd1⟩,by simpa [Pk.le] using H⟩ ⟨U,sl_eq (by simp),trivial⟩ (fun mm sl ρv W hJ=>?_))
 clear H;obtain ⟨k,B,d,rfl,rfl,hk,hd,H⟩:=hJ
 refine ko (kR (sLt U U (ln (kQ (kC U (fun hc45=>?_) (fun hc45=>?_))))))
 ·first|(replace hc45:=of_decide_eq_true hc45)|simp at hc45
  refine kS (kQ (kb (kR (sMi U (sAi U (ln (kr (sMs U (sMi U (sMi U (sR (d_mul U U U (by omega)) (sR (d_shr U U U (m:=8*k) U (by show 8*k<=64;omega)) ?_))))))))))))
  refine sR (d_conv U U (by rw [tu109];rfl) tu5 (u8_eq (shr_le u k))) ?_
  refine sf (ebs (xs:=[.tmp 52]) (vals:=[.int .u8 _]) (vs:=[.int .u8 _]) U U U U tu23 ts5 ty5 U U U H ?_)
  clear H;intro g15_6 W H
  refine sf (eap tu23 tx5 U U U H (rd_blk H.blk U) (U) (by omega) U ?_)
  clear H;intro A2 c2 W hc2 hd2 H
  replace H:=H.drop
  refine sAs U (ln (kn (zE (kr (sAd U U (by omega) (sMi U (ln (kn (kY ?_)))))))))
  refine ⟨_,_,_,?_,U,?_,?_,⟨k+1,A2,c2,U,U,by omega,⟨by omega,hd2⟩,by rw [Pk.le_succ,←List.cons_append,map_snoc];exact H⟩⟩
  ·omega
  ·with_reducible repeat first|exact .refl|refine .f ?_ ?_ ?_;kernel_rfl;kernel_rfl|refine .u ?_ ?_;kernel_rfl
  ·refine ⟨?_,?_,trivial⟩
   ·exact vi (by omega)
   ·exact U
 ·first|(replace hc45:=of_decide_eq_false hc45)|simp at hc45
  refine ke (xQ (xQ ?_))
  refine xH (kQ ?_)
  obtain rfl:k=2:=by omega
  refine kr (sMs U (sAs U (ln (kx ?_))))
  exact qr (v:=.slice _ _ _) U U ⟨_,U,H.newB (by rw [Pk.int_2 hu.1 hu.2];simp [Pk.len_le]) (by rw [Pk.int_2 hu.1 hu.2]) hd.1 hd.2⟩

theorem packInt4 {S:Nat->Prop} {v:Value} {b:List UInt8} (n:Int) (w:World) (hG:Gat w 2 formsC) (hb:Bs w S v b) (hl:b.length<=500000000000) (hu:65536<=Pk.toU n∧Pk.toU n<4294967296) :
  Calls Tryz.prog 75 [v,.int .i64 n].toArray w (Ret (NewB 5 w (b++Pk.int (Pk.toU n)))):=by
 have hc:=u64_wrap n
 have hcast:=Pk.toU_cast n
 have hlt:=Pk.toU_lt n
 generalize Pk.toU n=u at *
 have hb0:=hb
 obtain ⟨A,c,rfl,_,_,_⟩:=hb.op
 refine kE (l:=[_,_]) Tryz.func75 U U ?_
 have H:=St.start nT w
 refine kR (sAs U (lkR (sMi U (sR (d_conv U U (by rw [tu3];rfl) tu109 hc) ?_))))
 refine sAi U (ln (kQ (kR (sMi U (sR (d_iaA U U U (q:=0) U tu153 (by omega) ts152) (sFa U tf152_2 (sR (d_ldG U (H.gat hG) U ta109 U) (sLt U U (ln (kF U (by first|(simp;done)|(simp;omega)) ?_))))))))))
 refine kS (kR (sR (d_iaA U U U (q:=0) U tu153 (by omega) ts152) (sR (d_ldmG U (H.gat hG) U ta152 ts152 U) (sf (eal [.int .u8 0,.int .i64 0,.int .u64 0] tz152 H ?_)))))
 clear H;intro g4_2 W H
 refine sf (e_sto (wn U) U U U U U ts152 U H U ?_)
 clear H;intro W H
 refine ln (kQ (kR (sR (d_arrS U U U (l:=1) U tu153 (by omega) ts152) (sLn U tu155 (sMi U (ln (kb (k_unr (ko ?_)))))))))
 refine kR (sLt U U (ln (kQ (kT U (by first|(simp;done)|(simp;omega)) ?_))))
 refine kS (kQ (kb (kR (sR (d_iaS U ((H.gat hG).rd (i:=3) (s:=3) (q:=2) U) U U (q:=0) U (by decide) tu155 ts152) (sR (d_ldmR (q:=0) U ((H.gat hG).rd (i:=3) (s:=3) (q:=2) U) U ta152 ts152 (by decide) (by decide)) (sf (eal [.int .u8 0,.int .i64 0,.int .u64 0] tz152 H ?_)))))))
 clear H;intro g7_2 W H
 refine sf (e_sto (wn U) U U U U U ts152 U H U ?_)
 clear H;intro W H
 refine lkR (sMi U (sFa U tf152_2 (sR (d_ld U H U ta109 U) (sR (d_ge U U U) (ln (kT U (by first|(simp;done)|(simp;omega)) ?_))))))
 refine kr (sR (d_ldm U H U ta152 ts152 U) ?_)
 refine sf (e_sto (wn U) U U U U U ts152 U H U ?_)
 clear H;intro W H
 refine ln (kn (zE (kr (sAd U U (by omega) (sMi U (ln (kn (kY (hd_of (ko ?_))))))))))
 refine kR (sLt U U (ln (kQ (kT U (by first|(simp;done)|(simp;omega)) ?_))))
 refine kS (kQ (kb (kR (sR (d_iaS U ((H.gat hG).rd (i:=3) (s:=3) (q:=2) U) U U (q:=1) (by omega) (by decide) tu155 ts152) (sR (d_ldmR (q:=1) U ((H.gat hG).rd (i:=3) (s:=3) (q:=2) U) U ta152 ts152 (by decide) (by decide)) (sf (eal [.int .u8 0,.int .i64 0,.int .u64 0] tz152 H ?_)))))))
 clear H;intro g7_2 W H
 refine sf (e_sto (wn U) U U U U U ts152 U H U ?_)
 clear H;intro W H
 refine lkR (sMi U (sFa U tf152_2 (sR (d_ld U H U ta109 U) (sR (d_ge U U U) (ln (kF U (by first|(simp;done)|(simp;omega)) ?_))))))
 refine kS (kn (zE (kr (sAd U U (by omega) (sMi U (ln (kn (kY (hd_of (ko ?_))))))))))
 refine kR (sLt U U (ln (kQ (kF U (by first|(simp;done)|(simp;omega)) ?_))))
 refine ke (xQ (xQ ?_))
 refine xH (kR (sMs U (sFa U tf152_0 (sR (d_ld U H U ta5 U) (sf (ebs (xs:=[.tmp 39]) (vals:=[.int .u8 _]) (vs:=[.int .u8 _]) U U U U tu23 ts5 ty5 U U U H ?_))))))
 clear H;intro g11_3 W H
 refine sf (eN Tryz.func99 U U (behind _ (H.bs hb0) (Bs.mk (l:=[254]) (rd_blk H.blk U) (by omega) (by omega)) (by simp;omega)) H ?_)
 clear H;intro A1 c1 W hc1 hd1 H
 refine sAs U (ln (kQ (kR (sFa U tf152_1 (sR (d_ld U H U ta3 U) (sMi U (ln ?_)))))))
 replace H:=H.sub (L':=[_]) (.cons_cons _ (List.nil_sublist _))
 refine kb (kL 44 [9,10] (fun mm sl W=>∃k:Nat,∃B:Option Addr,∃d:Nat,4 - k=mm∧sl=[(44,.int .i64 (k:Int)),(9,.slice B (b.length+1+k) d)]∧(k<=4)∧(b.length+1+k<=d∧d<=9223372036854775807)∧St nT w W [Fact.row 5 1 (.slice B (b.length+1+k) d) (b.length+1+k) ((b++254::Pk.le u k).map u8v)]) _ _ ⟨0,A1,c1,U,U,by omega,⟨by simpa using hc1,hd1⟩,by simpa [Pk.le] using H⟩ ⟨U,sl_eq (by simp),trivial⟩ (fun mm sl ρv W hJ=>?_))
 clear H;obtain ⟨k,B,d,rfl,rfl,hk,hd,H⟩:=hJ
 refine ko (kR (sLt U U (ln (kQ (kC U (fun hc45=>?_) (fun hc45=>?_))))))
 ·first|(replace hc45:=of_decide_eq_true hc45)|simp at hc45
  refine kS (kQ (kb (kR (sMi U (sAi U (ln (kr (sMs U (sMi U (sMi U (sR (d_mul U U U (by omega)) (sR (d_shr U U U (m:=8*k) U (by show 8*k<=64;omega)) ?_))))))))))))
  refine sR (d_conv U U (by rw [tu109];rfl) tu5 (u8_eq (shr_le u k))) ?_
  refine sf (ebs (xs:=[.tmp 52]) (vals:=[.int .u8 _]) (vs:=[.int .u8 _]) U U U U tu23 ts5 ty5 U U U H ?_)
  clear H;intro g15_6 W H
  refine sf (eap tu23 tx5 U U U H (rd_blk H.blk U) (U) (by omega) U ?_)
  clear H;intro A2 c2 W hc2 hd2 H
  replace H:=H.drop
  refine sAs U (ln (kn (zE (kr (sAd U U (by omega) (sMi U (ln (kn (kY ?_)))))))))
  refine ⟨_,_,_,?_,U,?_,?_,⟨k+1,A2,c2,U,U,by omega,⟨by omega,hd2⟩,by rw [Pk.le_succ,←List.cons_append,map_snoc];exact H⟩⟩
  ·omega
  ·with_reducible repeat first|exact .refl|refine .f ?_ ?_ ?_;kernel_rfl;kernel_rfl|refine .u ?_ ?_;kernel_rfl
  ·refine ⟨?_,?_,trivial⟩
   ·exact vi (by omega)
   ·exact U
 ·first|(replace hc45:=of_decide_eq_false hc45)|simp at hc45
  refine ke (xQ (xQ ?_))
  refine xH (kQ ?_)
  obtain rfl:k=4:=by omega
  refine kr (sMs U (sAs U (ln (kx ?_))))
  exact qr (v:=.slice _ _ _) U U ⟨_,U,H.newB (by rw [Pk.int_4 hu.1 hu.2];simp [Pk.len_le]) (by rw [Pk.int_4 hu.1 hu.2]) hd.1 hd.2⟩

theorem packInt8 {S:Nat->Prop} {v:Value} {b:List UInt8} (n:Int) (w:World) (hG:Gat w 2 formsC) (hb:Bs w S v b) (hl:b.length<=500000000000) (hu:4294967296<=Pk.toU n) :
  Calls Tryz.prog 75 [v,.int .i64 n].toArray w (Ret (NewB 5 w (b++Pk.int (Pk.toU n)))):=by
 have hc:=u64_wrap n
 have hcast:=Pk.toU_cast n
 have hlt:=Pk.toU_lt n
 generalize Pk.toU n=u at *
 have hb0:=hb
 obtain ⟨A,c,rfl,_,_,_⟩:=hb.op
 refine kE (l:=[_,_]) Tryz.func75 U U ?_
 have H:=St.start nT w
 refine kR (sAs U (lkR (sMi U (sR (d_conv U U (by rw [tu3];rfl) tu109 hc) ?_))))
 refine sAi U (ln (kQ (kR (sMi U (sR (d_iaA U U U (q:=0) U tu153 (by omega) ts152) (sFa U tf152_2 (sR (d_ldG U (H.gat hG) U ta109 U) (sLt U U (ln (kF U (by first|(simp;done)|(simp;omega)) ?_))))))))))
 refine kS (kR (sR (d_iaA U U U (q:=0) U tu153 (by omega) ts152) (sR (d_ldmG U (H.gat hG) U ta152 ts152 U) (sf (eal [.int .u8 0,.int .i64 0,.int .u64 0] tz152 H ?_)))))
 clear H;intro g4_2 W H
 refine sf (e_sto (wn U) U U U U U ts152 U H U ?_)
 clear H;intro W H
 refine ln (kQ (kR (sR (d_arrS U U U (l:=1) U tu153 (by omega) ts152) (sLn U tu155 (sMi U (ln (kb (k_unr (ko ?_)))))))))
 refine kR (sLt U U (ln (kQ (kT U (by first|(simp;done)|(simp;omega)) ?_))))
 refine kS (kQ (kb (kR (sR (d_iaS U ((H.gat hG).rd (i:=3) (s:=3) (q:=2) U) U U (q:=0) U (by decide) tu155 ts152) (sR (d_ldmR (q:=0) U ((H.gat hG).rd (i:=3) (s:=3) (q:=2) U) U ta152 ts152 (by decide) (by decide)) (sf (eal [.int .u8 0,.int .i64 0,.int .u64 0] tz152 H ?_)))))))
 clear H;intro g7_2 W H
 refine sf (e_sto (wn U) U U U U U ts152 U H U ?_)
 clear H;intro W H
 refine lkR (sMi U (sFa U tf152_2 (sR (d_ld U H U ta109 U) (sR (d_ge U U U) (ln (kT U (by first|(simp;done)|(simp;omega)) ?_))))))
 refine kr (sR (d_ldm U H U ta152 ts152 U) ?_)
 refine sf (e_sto (wn U) U U U U U ts152 U H U ?_)
 clear H;intro W H
 refine ln (kn (zE (kr (sAd U U (by omega) (sMi U (ln (kn (kY (hd_of (ko ?_))))))))))
 refine kR (sLt U U (ln (kQ (kT U (by first|(simp;done)|(simp;omega)) ?_))))
 refine kS (kQ (kb (kR (sR (d_iaS U ((H.gat hG).rd (i:=3) (s:=3) (q:=2) U) U U (q:=1) (by omega) (by decide) tu155 ts152) (sR (d_ldmR (q:=1) U ((H.gat hG).rd (i:=3) (s:=3) (q:=2) U) U ta152 ts152 (by decide) (by decide)) (sf (eal [.int .u8 0,.int .i64 0,.int .u64 0] tz152 H ?_)))))))
 clear H;intro g7_2 W H
 refine sf (e_sto (wn U) U U U U U ts152 U H U ?_)
 clear H;intro W H
 refine lkR (sMi U (sFa U tf152_2 (sR (d_ld U H U ta109 U) (sR (d_ge U U U) (ln (kT U (by first|(simp;done)|(simp;omega)) ?_))))))
 refine kr (sR (d_ldm U H U ta152 ts152 U) ?_)
 refine sf (e_sto (wn U) U U U U U ts152 U H U ?_)
 clear H;intro W H
 refine ln (kn (zE (kr (sAd U U (by omega) (sMi U (ln (kn (kY (hd_of (ko ?_))))))))))
 refine kR (sLt U U (ln (kQ (kF U (by first|(simp;done)|(simp;omega)) ?_))))
 refine ke (xQ (xQ ?_))
 refine xH (kR (sMs U (sFa U tf152_0 (sR (d_ld U H U ta5 U) (sf (ebs (xs:=[.tmp 39]) (vals:=[.int .u8 _]) (vs:=[.int .u8 _]) U U U U tu23 ts5 ty5 U U U H ?_))))))
 clear H;intro g11_3 W H
 refine sf (eN Tryz.func99 U U (behind _ (H.bs hb0) (Bs.mk (l:=[255]) (rd_blk H.blk U) (by omega) (by omega)) (by simp;omega)) H ?_)
 clear H;intro A1 c1 W hc1 hd1 H
 refine sAs U (ln (kQ (kR (sFa U tf152_1 (sR (d_ld U H U ta3 U) (sMi U (ln ?_)))))))
 replace H:=H.sub (L':=[_]) (.cons_cons _ (List.nil_sublist _))
 refine kb (kL 44 [9,10] (fun mm sl W=>∃k:Nat,∃B:Option Addr,∃d:Nat,8 - k=mm∧sl=[(44,.int .i64 (k:Int)),(9,.slice B (b.length+1+k) d)]∧(k<=8)∧(b.length+1+k<=d∧d<=9223372036854775807)∧St nT w W [Fact.row 5 1 (.slice B (b.length+1+k) d) (b.length+1+k) ((b++255::Pk.le u k).map u8v)]) _ _ ⟨0,A1,c1,U,U,by omega,⟨by simpa using hc1,hd1⟩,by simpa [Pk.le] using H⟩ ⟨U,sl_eq (by simp),trivial⟩ (fun mm sl ρv W hJ=>?_))
 clear H;obtain ⟨k,B,d,rfl,rfl,hk,hd,H⟩:=hJ
 refine ko (kR (sLt U U (ln (kQ (kC U (fun hc45=>?_) (fun hc45=>?_))))))
 ·first|(replace hc45:=of_decide_eq_true hc45)|simp at hc45
  refine kS (kQ (kb (kR (sMi U (sAi U (ln (kr (sMs U (sMi U (sMi U (sR (d_mul U U U (by omega)) (sR (d_shr U U U (m:=8*k) U (by show 8*k<=64;omega)) ?_))))))))))))
  refine sR (d_conv U U (by rw [tu109];rfl) tu5 (u8_eq (shr_le u k))) ?_
  refine sf (ebs (xs:=[.tmp 52]) (vals:=[.int .u8 _]) (vs:=[.int .u8 _]) U U U U tu23 ts5 ty5 U U U H ?_)
  clear H;intro g15_6 W H
  refine sf (eap tu23 tx5 U U U H (rd_blk H.blk U) (U) (by omega) U ?_)
  clear H;intro A2 c2 W hc2 hd2 H
  replace H:=H.drop
  refine sAs U (ln (kn (zE (kr (sAd U U (by omega) (sMi U (ln (kn (kY ?_)))))))))
  refine ⟨_,_,_,?_,U,?_,?_,⟨k+1,A2,c2,U,U,by omega,⟨by omega,hd2⟩,by rw [Pk.le_succ,←List.cons_append,map_snoc];exact H⟩⟩
  ·omega
  ·with_reducible repeat first|exact .refl|refine .f ?_ ?_ ?_;kernel_rfl;kernel_rfl|refine .u ?_ ?_;kernel_rfl
  ·refine ⟨?_,?_,trivial⟩
   ·exact vi (by omega)
   ·exact U
 ·first|(replace hc45:=of_decide_eq_false hc45)|simp at hc45
  refine ke (xQ (xQ ?_))
  refine xH (kQ ?_)
  obtain rfl:k=8:=by omega
  refine kr (sMs U (sAs U (ln (kx ?_))))
  exact qr (v:=.slice _ _ _) U U ⟨_,U,H.newB (by rw [Pk.int_8 hu];simp [Pk.len_le]) (by rw [Pk.int_8 hu]) hd.1 hd.2⟩

theorem packInt {S:Nat->Prop} {v:Value} {b:List UInt8} (n:Int) (w:World) (hG:Gat w 2 formsC) (hb:Bs w S v b) (hn : -9223372036854775808<=n∧n<=9223372036854775807) (hl:b.length<=500000000000) :
  Calls Tryz.prog 75 [v,.int .i64 n].toArray w (Ret (NewB 5 w (b++Pk.int (Pk.toU n)))):=by
 rcases Nat.lt_or_ge (Pk.toU n) 253 with h|h
 ·exact packInt1 n w hG hb hn hl h
 rcases Nat.lt_or_ge (Pk.toU n) 65536 with h2|h2
 ·exact packInt2 n w hG hb hl ⟨h,h2⟩
 rcases Nat.lt_or_ge (Pk.toU n) 4294967296 with h4|h4
 ·exact packInt4 n w hG hb hl ⟨h2,h4⟩
 ·exact packInt8 n w hG hb hl h4

theorem packBlob {S S1:Nat->Prop} {v u:Value} {b p:List UInt8} (w:World) (hG:Gat w 2 formsC) (hb:Bs w S v b) (hl:b.length<=400000000000) (hp:Bs w S1 u p) (hl2:p.length<=400000000000) :
  Calls Tryz.prog 79 [v,u].toArray w (Ret (NewB 5 w (b++(Pk.int p.length++p)))):=by
 have hb0:=hb
 obtain ⟨A,c,rfl,_,_,hb⟩:=hb.op
 have hp0:=hp
 obtain ⟨B,d,rfl,_,_,hp⟩:=hp.op
 have hi:=Pk.len_int p.length
 refine kE (l:=[_,_]) Tryz.func79 U U ?_
 have H:=St.start nT w
 refine kR (sAs U (lkR (sMs U (sMs U (sLn U tu23 (sf (ecl Tryz.func75 U U (packInt _ _ (H.gat hG) (H.bs hb0) (by omega) (by omega)) ?_)))))))
 rw [Pk.toU_pos _ (by omega) (by omega),Int.toNat_natCast]
 rintro _ W ⟨A1,c1,rfl,hc1,hd1,hn⟩
 replace H:=H.new hn
 clear hn
 refine sMs U (sf (eap tu23 tx5 U U U H (H.rd hp) (all_u8L _) (by rw [List.length_append];omega) U ?_))
 clear H;intro A2 c2 W hc2 hd2 H
 refine sAs U (ln (kx ?_))
 exact qr (v:=.slice _ _ _) U U ⟨_,U,H.newB (by simp;omega) (by simp) hc2 hd2⟩

theorem packHash {S:Nat->Prop} {v:Value} {b h:List UInt8} (w:World) (hb:Bs w S v b) (hl:b.length<=400000000000) (hh:h.length=32) :
  Calls Tryz.prog 76 [v,.agg (h.map u8v).toArray].toArray w (Ret (NewB 5 w (b++h))):=by
 have hb0:=hb
 obtain ⟨A,c,rfl,_,_,hb⟩:=hb.op
 refine kE (l:=[_,_]) Tryz.func76 U U ?_
 have H:=St.start nT w
 refine kR (sf (ebx U U H ?_))
 clear H;intro g0_0 W H
 refine sAs U (lkR (sMs U (sR (d_arrA U U tu25 ts5) (sf (eN Tryz.func99 U U (behind _ (H.bs hb0) (Bs.mk (l:=h) (rd_blk H.blk (by simp;omega)) (by omega) (by omega)) (by omega)) H ?_)))))
 clear H;intro A1 c1 W hc1 hd1 H
 refine sAs U (ln (kx ?_))
 exact qr (v:=.slice _ _ _) U U ⟨_,U,H.newB U U hc1 hd1⟩

theorem refLow (n:Int) (m:Nat) (z:Int) (w:World) (hz:z=(m:Int)) (hm:m<=8) :
  Calls Tryz.prog 103 [.int .i64 n,.int .i64 z].toArray w (Ret (NewB 5 w (Pk.le (Pk.toU n) m))):=by
 subst hz
 have hc:=u64_wrap n
 have hlt:=Pk.toU_lt n
 generalize Pk.toU n=u at *
 refine kE (l:=[_,_]) Tryz.func103 U U ?_
 have H:=St.start nT w
 refine kR (sAs U (lkR (sMi U (sR (d_conv U U (by rw [tu3];rfl) tu109 hc) ?_))))
 refine sAi U (lkR (sAs U (ln ?_)))
 replace H:=H.nilrow 5 1
 refine kQ (kR (sAi U (ln (kb (kL 10 [5,6,7] (fun mm sl W=>∃k:Nat,∃B:Option Addr,∃d:Nat,m - k=mm∧sl=[(7,.int .i64 (k:Int)),(6,.slice B k d),(5,.int .u64 ((u / 256 ^ k:Nat):Int))]∧(k<=m)∧(k<=d∧d<=9223372036854775807)∧St nT w W [Fact.row 5 1 (.slice B k d) k ((Pk.le u k).map u8v)]) _ _ ⟨0,none,0,U,U,Nat.zero_le _,⟨Nat.le_refl _,by omega⟩,H⟩ ⟨U,U,vi (by simp),trivial⟩ (fun mm sl ρv W hJ=>?_))))))
 clear H;obtain ⟨k,B,d,rfl,rfl,hk,hd,H⟩:=hJ
 refine ko (kQ (kR (sMi U (sMi U (sLt U U (ln (kC U (fun hc12=>?_) (fun hc12=>?_))))))))
 ·first|(replace hc12:=of_decide_eq_true hc12)|simp at hc12
  refine kS (kQ (kb (kR (sMs U (sMi U (sR (d_remU U U U ⟨Int.natCast_nonneg _,by decide⟩) ?_))))))
  refine sR (d_conv U U (by rw [tu109];rfl) tu5 (u8_eq2 _)) ?_
  refine sf (ebs (xs:=[.tmp 18]) (vals:=[.int .u8 _]) (vs:=[.int .u8 _]) U U U U tu23 ts5 ty5 U U U H ?_)
  clear H;intro g6_4 W H
  refine sf (eap tu23 tx5 U U U H (rd_blk H.blk U) (U) (by omega) U ?_)
  clear H;intro A1 c1 W hc1 hd1 H
  replace H:=H.drop
  refine sAs U (ln (kr (sMi U (sR (d_quo U U U ⟨Int.natCast_nonneg _,by decide⟩ (u64_div u k hlt)) ?_))))
  refine sAi U (ln (kn (zE (kI U U U (by omega) U (kn (kY ?_))))))
  refine ⟨_,_,_,?_,U,?_,?_,⟨k+1,A1,c1,U,U,by omega,⟨hc1,hd1⟩,by rw [Pk.le_succ,List.map_append];exact H⟩⟩
  ·omega
  ·with_reducible repeat first|exact .refl|refine .f ?_ ?_ ?_;kernel_rfl;kernel_rfl|refine .u ?_ ?_;kernel_rfl
  ·refine ⟨?_,?_,?_,trivial⟩
   ·exact vi (by omega)
   ·exact U
   ·exact U
 ·first|(replace hc12:=of_decide_eq_false hc12)|simp at hc12
  refine ke (xQ (xQ ?_))
  refine xH (kQ ?_)
  obtain rfl:k=m:=by omega
  refine kr (sMs U (sAs U (ln (kx ?_))))
  exact qr (v:=.slice _ _ _) U U ⟨_,U,H.newB (by rw [Pk.len_le]) U hd.1 hd.2⟩

theorem refInt1 {S:Nat->Prop} {v:Value} {b:List UInt8} (n:Int) (w:World) (hb:Bs w S v b) (hn : -9223372036854775808<=n∧n<=9223372036854775807) (hl:b.length<=500000000000) (hu:0<=n∧n<253) :
  Calls Tryz.prog 81 [v,.int .i64 n].toArray w (Ret (NewB 5 w (b++Pk.int (Pk.toU n)))):=by
 have hcast:=Pk.toU_cast n
 have hb0:=hb
 obtain ⟨A,c,rfl,_,_,_⟩:=hb.op
 refine kE (l:=[_,_]) Tryz.func81 U U ?_
 have H:=St.start nT w
 refine kR (sAs U (lkR (sMs U (sf (eN Tryz.func28 U U (copyBytes _ b _ (H.bs hb0) (by omega)) H ?_)))))
 clear H;intro A0 c0 W hc0 hd0 H
 refine sAs U (ln (kQ (kR (sMi U (sR (d_ge U U U) (sBt U ((by first|(simp;done)|(simp;omega))) ?_))))))
 refine sr (w_g U U U U) U (mv_i U U) (sr (w_g U U U U) U (d_lt U U U) (sPT U U (ln (kT U (by first|(simp;done)|(simp;omega)) ?_))))
 refine kR (sMs U (sMi U (sR (d_conv U U (by rw [tu3];rfl) tu5 (u8_eq (n:=Pk.toU n) (by omega))) ?_)))
 refine sf (ebs (xs:=[.tmp 16]) (vals:=[.int .u8 _]) (vs:=[.int .u8 _]) U U U U tu23 ts5 ty5 U U U H ?_)
 clear H;intro g3_3 W H
 refine sf (eap tu23 tx5 U U U H (rd_blk H.blk U) (U) (by omega) U ?_)
 clear H;intro A1 c1 W hc1 hd1 H
 replace H:=H.drop
 refine sAs U (ln (kx ?_))
 exact qr (v:=.slice _ _ _) U U ⟨_,U,H.newB (by rw [Pk.int_1 (by omega)];simp) (by rw [Pk.int_1 (by omega)];simp) hc1 hd1⟩

theorem refInt2 {S:Nat->Prop} {v:Value} {b:List UInt8} (n:Int) (w:World) (hb:Bs w S v b) (hn : -9223372036854775808<=n∧n<=9223372036854775807) (hl:b.length<=500000000000) (hu:253<=n∧n<65536) :
  Calls Tryz.prog 81 [v,.int .i64 n].toArray w (Ret (NewB 5 w (b++Pk.int (Pk.toU n)))):=by
 have hcast:=Pk.toU_cast n
 have hb0:=hb
 obtain ⟨A,c,rfl,_,_,_⟩:=hb.op
 refine kE (l:=[_,_]) Tryz.func81 U U ?_
 have H:=St.start nT w
 refine kR (sAs U (lkR (sMs U (sf (eN Tryz.func28 U U (copyBytes _ b _ (H.bs hb0) (by omega)) H ?_)))))
 clear H;intro A0 c0 W hc0 hd0 H
 refine sAs U (ln (kQ (kR (sMi U (sR (d_ge U U U) (sBt U ((by first|(simp;done)|(simp;omega))) ?_))))))
 refine sr (w_g U U U U) U (mv_i U U) (sr (w_g U U U U) U (d_lt U U U) (sPT U U (ln (kF U (by first|(simp;done)|(simp;omega)) ?_))))
 refine kS (kQ (kR (sMi U (sR (d_ge U U U) (sBt U ((by first|(simp;done)|(simp;omega))) ?_)))))
 refine sr (w_g U U U U) U (mv_i U U) (sr (w_g U U U U) U (d_lt U U U) (sPT U U (ln (kT U (by first|(simp;done)|(simp;omega)) ?_))))
 refine kR (sMs U (sf (ebs (xs:=[.const (.int .u8 253)]) (vals:=[.int .u8 _]) (vs:=[.int .u8 _]) U U U U tu23 ts5 ty5 U U U H ?_)))
 clear H;intro g5_1 W H
 refine sf (eap tu23 tx5 U U U H (rd_blk H.blk U) (U) (by omega) U ?_)
 clear H;intro A1 c1 W hc1 hd1 H
 replace H:=H.drop
 refine sMi U (sf (eN Tryz.func103 U U (refLow n 2 _ _ U (by omega)) H ?_))
 clear H;intro A2 c2 W hc2 hd2 H
 refine sf (eap tu23 tx5 U U U H (H.rowrd (A:=A2)) (all_u8L _) (by simp [Pk.len_le];omega) U ?_)
 clear H;intro A3 c3 W hc3 hd3 H
 refine sAs U (ln (kx ?_))
 exact qr (v:=.slice _ _ _) U U ⟨_,U,H.newB (by rw [Pk.int_2 (by omega) (by omega)];simp [Pk.len_le]) (by rw [Pk.int_2 (by omega) (by omega)];simp) hc3 hd3⟩

theorem refInt4 {S:Nat->Prop} {v:Value} {b:List UInt8} (n:Int) (w:World) (hb:Bs w S v b) (hn : -9223372036854775808<=n∧n<=9223372036854775807) (hl:b.length<=500000000000) (hu:65536<=n∧n<4294967296) :
  Calls Tryz.prog 81 [v,.int .i64 n].toArray w (Ret (NewB 5 w (b++Pk.int (Pk.toU n)))):=by
 have hcast:=Pk.toU_cast n
 have hb0:=hb
 obtain ⟨A,c,rfl,_,_,_⟩:=hb.op
 refine kE (l:=[_,_]) Tryz.func81 U U ?_
 have H:=St.start nT w
 refine kR (sAs U (lkR (sMs U (sf (eN Tryz.func28 U U (copyBytes _ b _ (H.bs hb0) (by omega)) H ?_)))))
 clear H;intro A0 c0 W hc0 hd0 H
 refine sAs U (ln (kQ (kR (sMi U (sR (d_ge U U U) (sBt U ((by first|(simp;done)|(simp;omega))) ?_))))))
 refine sr (w_g U U U U) U (mv_i U U) (sr (w_g U U U U) U (d_lt U U U) (sPT U U (ln (kF U (by first|(simp;done)|(simp;omega)) ?_))))
 refine kS (kQ (kR (sMi U (sR (d_ge U U U) (sBt U ((by first|(simp;done)|(simp;omega))) ?_)))))
 refine sr (w_g U U U U) U (mv_i U U) (sr (w_g U U U U) U (d_lt U U U) (sPT U U (ln (kF U (by first|(simp;done)|(simp;omega)) ?_))))
 refine kS (kQ (kR (sMi U (sR (d_ge U U U) (sBt U ((by first|(simp;done)|(simp;omega))) ?_)))))
 refine sr (w_g U U U U) U (mv_i U U) (sr (w_g U U U U) U (d_lt U U U) (sPT U U (ln (kT U (by first|(simp;done)|(simp;omega)) ?_))))
 refine kR (sMs U (sf (ebs (xs:=[.const (.int .u8 254)]) (vals:=[.int .u8 _]) (vs:=[.int .u8 _]) U U U U tu23 ts5 ty5 U U U H ?_)))
 clear H;intro g7_1 W H
 refine sf (eap tu23 tx5 U U U H (rd_blk H.blk U) (U) (by omega) U ?_)
 clear H;intro A1 c1 W hc1 hd1 H
 replace H:=H.drop
 refine sMi U (sf (eN Tryz.func103 U U (refLow n 4 _ _ U (by omega)) H ?_))
 clear H;intro A2 c2 W hc2 hd2 H
 refine sf (eap tu23 tx5 U U U H (H.rowrd (A:=A2)) (all_u8L _) (by simp [Pk.len_le];omega) U ?_)
 clear H;intro A3 c3 W hc3 hd3 H
 refine sAs U (ln (kx ?_))
 exact qr (v:=.slice _ _ _) U U ⟨_,U,H.newB (by rw [Pk.int_4 (by omega) (by omega)];simp [Pk.len_le]) (by rw [Pk.int_4 (by omega) (by omega)];simp) hc3 hd3⟩

theorem refInt8 {S:Nat->Prop} {v:Value} {b:List UInt8} (n:Int) (w:World) (hb:Bs w S v b) (hn : -9223372036854775808<=n∧n<=9223372036854775807) (hl:b.length<=500000000000) (hu:4294967296<=n) :
  Calls Tryz.prog 81 [v,.int .i64 n].toArray w (Ret (NewB 5 w (b++Pk.int (Pk.toU n)))):=by
 have hcast:=Pk.toU_cast n
 have hb0:=hb
 obtain ⟨A,c,rfl,_,_,_⟩:=hb.op
 refine kE (l:=[_,_]) Tryz.func81 U U ?_
 have H:=St.start nT w
 refine kR (sAs U (lkR (sMs U (sf (eN Tryz.func28 U U (copyBytes _ b _ (H.bs hb0) (by omega)) H ?_)))))
 clear H;intro A0 c0 W hc0 hd0 H
 refine sAs U (ln (kQ (kR (sMi U (sR (d_ge U U U) (sBt U ((by first|(simp;done)|(simp;omega))) ?_))))))
 refine sr (w_g U U U U) U (mv_i U U) (sr (w_g U U U U) U (d_lt U U U) (sPT U U (ln (kF U (by first|(simp;done)|(simp;omega)) ?_))))
 refine kS (kQ (kR (sMi U (sR (d_ge U U U) (sBt U ((by first|(simp;done)|(simp;omega))) ?_)))))
 refine sr (w_g U U U U) U (mv_i U U) (sr (w_g U U U U) U (d_lt U U U) (sPT U U (ln (kF U (by first|(simp;done)|(simp;omega)) ?_))))
 refine kS (kQ (kR (sMi U (sR (d_ge U U U) (sBt U ((by first|(simp;done)|(simp;omega))) ?_)))))
 refine sr (w_g U U U U) U (mv_i U U) (sr (w_g U U U U) U (d_lt U U U) (sPT U U (ln (kF U (by first|(simp;done)|(simp;omega)) ?_))))
 refine kS (kR (sMs U (sf (ebs (xs:=[.const (.int .u8 255)]) (vals:=[.int .u8 _]) (vs:=[.int .u8 _]) U U U U tu23 ts5 ty5 U U U H ?_))))
 clear H;intro g8_1 W H
 refine sf (eap tu23 tx5 U U U H (rd_blk H.blk U) (U) (by omega) U ?_)
 clear H;intro A1 c1 W hc1 hd1 H
 replace H:=H.drop
 refine sMi U (sf (eN Tryz.func103 U U (refLow n 8 _ _ U (by omega)) H ?_))
 clear H;intro A2 c2 W hc2 hd2 H
 refine sf (eap tu23 tx5 U U U H (H.rowrd (A:=A2)) (all_u8L _) (by simp [Pk.len_le];omega) U ?_)
 clear H;intro A3 c3 W hc3 hd3 H
 refine sAs U (ln (kx ?_))
 exact qr (v:=.slice _ _ _) U U ⟨_,U,H.newB (by rw [Pk.int_8 (by omega)];simp [Pk.len_le]) (by rw [Pk.int_8 (by omega)];simp) hc3 hd3⟩

theorem refIntN {S:Nat->Prop} {v:Value} {b:List UInt8} (n:Int) (w:World) (hb:Bs w S v b) (hn : -9223372036854775808<=n∧n<=9223372036854775807) (hl:b.length<=500000000000) (hu:n<0) :
  Calls Tryz.prog 81 [v,.int .i64 n].toArray w (Ret (NewB 5 w (b++Pk.int (Pk.toU n)))):=by
 have hcast:=Pk.toU_cast n
 have hb0:=hb
 obtain ⟨A,c,rfl,_,_,_⟩:=hb.op
 refine kE (l:=[_,_]) Tryz.func81 U U ?_
 have H:=St.start nT w
 refine kR (sAs U (lkR (sMs U (sf (eN Tryz.func28 U U (copyBytes _ b _ (H.bs hb0) (by omega)) H ?_)))))
 clear H;intro A0 c0 W hc0 hd0 H
 refine sAs U (ln (kQ (kR (sMi U (sR (d_ge U U U) (sBf U ((by first|(simp;done)|(simp;omega))) ?_))))))
 refine sK (wO U U U U U) U (sK (wO U U U U U) U (sPF U U (ln (kF U (by first|(simp;done)|(simp;omega)) ?_))))
 refine kS (kQ (kR (sMi U (sR (d_ge U U U) (sBf U ((by first|(simp;done)|(simp;omega))) ?_)))))
 refine sK (wO U U U U U) U (sK (wO U U U U U) U (sPF U U (ln (kF U (by first|(simp;done)|(simp;omega)) ?_))))
 refine kS (kQ (kR (sMi U (sR (d_ge U U U) (sBf U ((by first|(simp;done)|(simp;omega))) ?_)))))
 refine sK (wO U U U U U) U (sK (wO U U U U U) U (sPF U U (ln (kF U (by first|(simp;done)|(simp;omega)) ?_))))
 refine kS (kR (sMs U (sf (ebs (xs:=[.const (.int .u8 255)]) (vals:=[.int .u8 _]) (vs:=[.int .u8 _]) U U U U tu23 ts5 ty5 U U U H ?_))))
 clear H;intro g8_1 W H
 refine sf (eap tu23 tx5 U U U H (rd_blk H.blk U) (U) (by omega) U ?_)
 clear H;intro A1 c1 W hc1 hd1 H
 replace H:=H.drop
 refine sMi U (sf (eN Tryz.func103 U U (refLow n 8 _ _ U (by omega)) H ?_))
 clear H;intro A2 c2 W hc2 hd2 H
 refine sf (eap tu23 tx5 U U U H (H.rowrd (A:=A2)) (all_u8L _) (by simp [Pk.len_le];omega) U ?_)
 clear H;intro A3 c3 W hc3 hd3 H
 refine sAs U (ln (kx ?_))
 exact qr (v:=.slice _ _ _) U U ⟨_,U,H.newB (by rw [Pk.int_8 (by omega)];simp [Pk.len_le]) (by rw [Pk.int_8 (by omega)];simp) hc3 hd3⟩

theorem refInt {S:Nat->Prop} {v:Value} {b:List UInt8} (n:Int) (w:World) (hb:Bs w S v b) (hn : -9223372036854775808<=n∧n<=9223372036854775807) (hl:b.length<=500000000000) :
  Calls Tryz.prog 81 [v,.int .i64 n].toArray w (Ret (NewB 5 w (b++Pk.int (Pk.toU n)))):=by
 rcases Int.lt_or_le n 0 with h|h
 ·exact refIntN n w hb hn hl h
 rcases Int.lt_or_le n 253 with h1|h1
 ·exact refInt1 n w hb hn hl ⟨h,h1⟩
 rcases Int.lt_or_le n 65536 with h2|h2
 ·exact refInt2 n w hb hn hl ⟨h1,h2⟩
 rcases Int.lt_or_le n 4294967296 with h4|h4
 ·exact refInt4 n w hb hn hl ⟨h2,h4⟩
 ·exact refInt8 n w hb hn hl h4

theorem refBlob {S S1:Nat->Prop} {v u:Value} {b p:List UInt8} (w:World) (hb:Bs w S v b) (hl:b.length<=400000000000) (hp:Bs w S1 u p) (hl2:p.length<=400000000000) :
  Calls Tryz.prog 83 [v,u].toArray w (Ret (NewB 5 w (b++(Pk.int p.length++p)))):=by
 have hb0:=hb
 obtain ⟨A,c,rfl,_,_,hb⟩:=hb.op
 have hp0:=hp
 obtain ⟨B,d,rfl,_,_,hp⟩:=hp.op
 have hi:=Pk.len_int p.length
 refine kE (l:=[_,_]) Tryz.func83 U U ?_
 have H:=St.start nT w
 refine kR (sAs U (lkR (sMs U (sMs U (sLn U tu23 (sf (ecl Tryz.func81 U U (refInt _ _ (H.bs hb0) (by omega) (by omega)) ?_)))))))
 rw [Pk.toU_pos _ (by omega) (by omega),Int.toNat_natCast]
 rintro _ W ⟨A1,c1,rfl,hc1,hd1,hn⟩
 replace H:=H.new hn
 clear hn
 refine sMs U (sf (eap tu23 tx5 U U U H (H.rd hp) (all_u8L _) (by rw [List.length_append];omega) U ?_))
 clear H;intro A2 c2 W hc2 hd2 H
 refine sAs U (ln (kx ?_))
 exact qr (v:=.slice _ _ _) U U ⟨_,U,H.newB (by simp;omega) (by simp) hc2 hd2⟩

theorem refHash {S:Nat->Prop} {v:Value} {b h:List UInt8} (w:World) (hb:Bs w S v b) (hl:b.length<=400000000000) (hh:h.length=32) :
  Calls Tryz.prog 82 [v,.agg (h.map u8v).toArray].toArray w (Ret (NewB 5 w (b++h))):=by
 have hb0:=hb
 obtain ⟨A,c,rfl,_,_,hb⟩:=hb.op
 refine kE (l:=[_,_]) Tryz.func82 U U ?_
 have H:=St.start nT w
 refine kR (sf (ebx U U H ?_))
 clear H;intro g0_0 W H
 refine sAs U (ln (kQ (k_draw [(0,true),(2,true),(1,false),(3,false),(4,true)] _ (by kernel_rfl) (by kernel_rfl) H (.refl _) ?_)))
 clear H;intro W H
 refine cMs U U (cR U (fun W H=>d_arrA U U tu25 ts5) (cf U (eN Tryz.func28 U U (copyBytes _ b _ (H.bs hb0) (by omega)) H ?_)))
 clear H;intro A1 c1 W hc1 hd1 H
 refine ⟨H.sb,?_⟩
 refine cf U (eap tu23 tx5 U U U H (rd_blk H.blk (by simp;omega)) (all_u8L _) (by omega) U ?_)
 clear H;intro A2 c2 W hc2 hd2 H
 refine ⟨H.sb,?_⟩
 refine cAs U U (c_nil (kx ?_))
 exact qr (v:=.slice _ _ _) U U ⟨_,U,H.newB (by simp;omega) (by simp) hc2 hd2⟩

end Go.Proofs.YtjjodibkmeefpaaGreatDoor
