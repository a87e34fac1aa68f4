import Derived.Test.YtfhhfhdnhadooaaGreatDoorMV
import Derived.Test.YtfhhfhdnhadooaaGreatDoorProg
import Derived.KernelRfl
set_option linter.unusedVariables false
set_option linter.unusedSimpArgs false
set_option maxHeartbeats 4000000

namespace Go.Proofs.YtfhhfhdnhadooaaGreatDoor
open Go Go.RowKit
theorem tu3:Tryz.prog.underlying 3=some (.int .i64):=by kernel_rfl
theorem ts3:(Tryz.prog.info? 3).map (·.size)=some 1:=by kernel_rfl
theorem ta3:aggB Tryz.prog 3=some false:=by kernel_rfl
theorem tz3:((Tryz.prog.info? 3).bind (·.zero)).map (·.cells)=some (List.toArray [.int .i64 0]):=by kernel_rfl
theorem ty3:((Tryz.prog.info? 3).bind (·.zero)).isSome=true:=by kernel_rfl
theorem tu5:Tryz.prog.underlying 5=some (.int .u8):=by kernel_rfl
theorem ts5:(Tryz.prog.info? 5).map (·.size)=some 1:=by kernel_rfl
theorem ta5:aggB Tryz.prog 5=some false:=by kernel_rfl
theorem tz5:((Tryz.prog.info? 5).bind (·.zero)).map (·.cells)=some (List.toArray [.int .u8 0]):=by kernel_rfl
theorem ty5:((Tryz.prog.info? 5).bind (·.zero)).isSome=true:=by kernel_rfl
theorem tx5:(Tryz.prog.info? 5).map (fun i=>(i.zero.map (·.cells.size),i.size,i.bytes))=some (some 1,1,1):=by kernel_rfl
theorem tu22:Tryz.prog.underlying 22=some (.slice 34):=by kernel_rfl
theorem ts22:(Tryz.prog.info? 22).map (·.size)=some 1:=by kernel_rfl
theorem ta22:aggB Tryz.prog 22=some false:=by kernel_rfl
theorem tu24:Tryz.prog.underlying 24=some (.array 32 5):=by kernel_rfl
theorem ts24:(Tryz.prog.info? 24).map (·.size)=some 32:=by kernel_rfl
theorem ta24:aggB Tryz.prog 24=some true:=by kernel_rfl
theorem tz24:((Tryz.prog.info? 24).bind (·.zero)).map (·.cells)=some (List.toArray [.int .u8 0,.int .u8 0,.int .u8 0,.int .u8 0,.int .u8 0,.int .u8 0,.int .u8 0,.int .u8 0,.int .u8 0,.int .u8 0,.int .u8 0,.int .u8 0,.int .u8 0,.int .u8 0,.int .u8 0,.int .u8 0,.int .u8 0,.int .u8 0,.int .u8 0,.int .u8 0,.int .u8 0,.int .u8 0,.int .u8 0,.int .u8 0,.int .u8 0,.int .u8 0,.int .u8 0,.int .u8 0,.int .u8 0,.int .u8 0,.int .u8 0,.int .u8 0]):=by kernel_rfl
theorem ty24:((Tryz.prog.info? 24).bind (·.zero)).isSome=true:=by kernel_rfl
theorem tx24:(Tryz.prog.info? 24).map (fun i=>(i.zero.map (·.cells.size),i.size,i.bytes))=some (some 32,32,32):=by kernel_rfl
theorem ts26:(Tryz.prog.info? 26).map (·.size)=some 65:=by kernel_rfl
theorem ta26:aggB Tryz.prog 26=some true:=by kernel_rfl
theorem tf26_0:fOff Tryz.prog 26 0=some (0,24):=by kernel_rfl
theorem tf26_1:fOff Tryz.prog 26 1=some (32,24):=by kernel_rfl
theorem tf26_2:fOff Tryz.prog 26 2=some (64,3):=by kernel_rfl
theorem ts28:(Tryz.prog.info? 28).map (·.size)=some 66:=by kernel_rfl
theorem ta28:aggB Tryz.prog 28=some true:=by kernel_rfl
theorem tf28_0:fOff Tryz.prog 28 0=some (0,26):=by kernel_rfl
theorem tf28_1:fOff Tryz.prog 28 1=some (65,22):=by kernel_rfl
theorem tu31:Tryz.prog.underlying 31=some (.slice 64):=by kernel_rfl
theorem ts31:(Tryz.prog.info? 31).map (·.size)=some 1:=by kernel_rfl
theorem ta31:aggB Tryz.prog 31=some false:=by kernel_rfl
theorem tu32:Tryz.prog.underlying 32=some (.slice 66):=by kernel_rfl
theorem ts32:(Tryz.prog.info? 32).map (·.size)=some 1:=by kernel_rfl
theorem ta32:aggB Tryz.prog 32=some false:=by kernel_rfl
theorem ts34:(Tryz.prog.info? 34).map (·.size)=some 3:=by kernel_rfl
theorem ta34:aggB Tryz.prog 34=some true:=by kernel_rfl
theorem tz34:((Tryz.prog.info? 34).bind (·.zero)).map (·.cells)=some (List.toArray [.slice none 0 0,.slice none 0 0,.int .i64 0]):=by kernel_rfl
theorem ty34:((Tryz.prog.info? 34).bind (·.zero)).isSome=true:=by kernel_rfl
theorem tx34:(Tryz.prog.info? 34).map (fun i=>(i.zero.map (·.cells.size),i.size,i.bytes))=some (some 3,3,56):=by kernel_rfl
theorem tf34_0:fOff Tryz.prog 34 0=some (0,31):=by kernel_rfl
theorem tf34_1:fOff Tryz.prog 34 1=some (1,32):=by kernel_rfl
theorem tf34_2:fOff Tryz.prog 34 2=some (2,3):=by kernel_rfl
theorem tu40:Tryz.prog.underlying 40=some (.slice 3):=by kernel_rfl
theorem tu41:Tryz.prog.underlying 41=some (.slice 5):=by kernel_rfl
theorem ts41:(Tryz.prog.info? 41).map (·.size)=some 1:=by kernel_rfl
theorem ta41:aggB Tryz.prog 41=some false:=by kernel_rfl
theorem tz41:((Tryz.prog.info? 41).bind (·.zero)).map (·.cells)=some (List.toArray [.slice none 0 0]):=by kernel_rfl
theorem ty41:((Tryz.prog.info? 41).bind (·.zero)).isSome=true:=by kernel_rfl
theorem tx41:(Tryz.prog.info? 41).map (fun i=>(i.zero.map (·.cells.size),i.size,i.bytes))=some (some 1,1,24):=by kernel_rfl
theorem ts42:(Tryz.prog.info? 42).map (·.size)=some 1:=by kernel_rfl
theorem ta42:aggB Tryz.prog 42=some false:=by kernel_rfl
theorem tz42:((Tryz.prog.info? 42).bind (·.zero)).map (·.cells)=some (List.toArray [.int .i64 0]):=by kernel_rfl
theorem ts46:(Tryz.prog.info? 46).map (·.size)=some 1:=by kernel_rfl
theorem ta46:aggB Tryz.prog 46=some false:=by kernel_rfl
theorem tz46:((Tryz.prog.info? 46).bind (·.zero)).map (·.cells)=some (List.toArray [.nilFunc]):=by kernel_rfl
theorem ts61:(Tryz.prog.info? 61).map (·.size)=some 33:=by kernel_rfl
theorem ta61:aggB Tryz.prog 61=some true:=by kernel_rfl
theorem tz61:((Tryz.prog.info? 61).bind (·.zero)).map (·.cells)=some (List.toArray [.int .u8 0,.int .u8 0,.int .u8 0,.int .u8 0,.int .u8 0,.int .u8 0,.int .u8 0,.int .u8 0,.int .u8 0,.int .u8 0,.int .u8 0,.int .u8 0,.int .u8 0,.int .u8 0,.int .u8 0,.int .u8 0,.int .u8 0,.int .u8 0,.int .u8 0,.int .u8 0,.int .u8 0,.int .u8 0,.int .u8 0,.int .u8 0,.int .u8 0,.int .u8 0,.int .u8 0,.int .u8 0,.int .u8 0,.int .u8 0,.int .u8 0,.int .u8 0,.int .i64 0]):=by kernel_rfl
theorem tf61_0:fOff Tryz.prog 61 0=some (0,24):=by kernel_rfl
theorem tf61_1:fOff Tryz.prog 61 1=some (32,3):=by kernel_rfl
theorem tu62:Tryz.prog.underlying 62=some (.slice 41):=by kernel_rfl
theorem ts62:(Tryz.prog.info? 62).map (·.size)=some 1:=by kernel_rfl
theorem ta62:aggB Tryz.prog 62=some false:=by kernel_rfl
theorem ts64:(Tryz.prog.info? 64).map (·.size)=some 34:=by kernel_rfl
theorem ta64:aggB Tryz.prog 64=some true:=by kernel_rfl
theorem tz64:((Tryz.prog.info? 64).bind (·.zero)).map (·.cells)=some (List.toArray [.int .u8 0,.int .u8 0,.int .u8 0,.int .u8 0,.int .u8 0,.int .u8 0,.int .u8 0,.int .u8 0,.int .u8 0,.int .u8 0,.int .u8 0,.int .u8 0,.int .u8 0,.int .u8 0,.int .u8 0,.int .u8 0,.int .u8 0,.int .u8 0,.int .u8 0,.int .u8 0,.int .u8 0,.int .u8 0,.int .u8 0,.int .u8 0,.int .u8 0,.int .u8 0,.int .u8 0,.int .u8 0,.int .u8 0,.int .u8 0,.int .u8 0,.int .u8 0,.int .i64 0,.slice none 0 0]):=by kernel_rfl
theorem ty64:((Tryz.prog.info? 64).bind (·.zero)).isSome=true:=by kernel_rfl
theorem tx64:(Tryz.prog.info? 64).map (fun i=>(i.zero.map (·.cells.size),i.size,i.bytes))=some (some 34,34,64):=by kernel_rfl
theorem tf64_0:fOff Tryz.prog 64 0=some (0,61):=by kernel_rfl
theorem tf64_1:fOff Tryz.prog 64 1=some (33,62):=by kernel_rfl
theorem ts66:(Tryz.prog.info? 66).map (·.size)=some 2:=by kernel_rfl
theorem ta66:aggB Tryz.prog 66=some true:=by kernel_rfl
theorem tz66:((Tryz.prog.info? 66).bind (·.zero)).map (·.cells)=some (List.toArray [.int .i64 0,.slice none 0 0]):=by kernel_rfl
theorem ty66:((Tryz.prog.info? 66).bind (·.zero)).isSome=true:=by kernel_rfl
theorem tx66:(Tryz.prog.info? 66).map (fun i=>(i.zero.map (·.cells.size),i.size,i.bytes))=some (some 2,2,32):=by kernel_rfl
theorem tf66_0:fOff Tryz.prog 66 0=some (0,3):=by kernel_rfl
theorem tf66_1:fOff Tryz.prog 66 1=some (1,41):=by kernel_rfl
theorem tu68:Tryz.prog.underlying 68=some (.slice 24):=by kernel_rfl
theorem ts68:(Tryz.prog.info? 68).map (·.size)=some 1:=by kernel_rfl
theorem ta68:aggB Tryz.prog 68=some false:=by kernel_rfl
theorem tz68:((Tryz.prog.info? 68).bind (·.zero)).map (·.cells)=some (List.toArray [.slice none 0 0]):=by kernel_rfl
theorem ts79:(Tryz.prog.info? 79).map (·.size)=some 1:=by kernel_rfl
theorem ta79:aggB Tryz.prog 79=some false:=by kernel_rfl
theorem ts89:(Tryz.prog.info? 89).map (·.size)=some 1:=by kernel_rfl
theorem ta89:aggB Tryz.prog 89=some false:=by kernel_rfl
theorem tz89:((Tryz.prog.info? 89).bind (·.zero)).map (·.cells)=some (List.toArray [.pointer none]):=by kernel_rfl
theorem tu104:Tryz.prog.underlying 104=some (.int .u64):=by kernel_rfl
theorem ts104:(Tryz.prog.info? 104).map (·.size)=some 1:=by kernel_rfl
theorem ta104:aggB Tryz.prog 104=some false:=by kernel_rfl
theorem tz104:((Tryz.prog.info? 104).bind (·.zero)).map (·.cells)=some (List.toArray [.int .u64 0]):=by kernel_rfl
theorem ts106:(Tryz.prog.info? 106).map (·.size)=some 3:=by kernel_rfl
theorem ta106:aggB Tryz.prog 106=some true:=by kernel_rfl
theorem tz106:((Tryz.prog.info? 106).bind (·.zero)).map (·.cells)=some (List.toArray [.int .u8 0,.int .i64 0,.int .u64 0]):=by kernel_rfl
theorem tf106_0:fOff Tryz.prog 106 0=some (0,5):=by kernel_rfl
theorem tf106_1:fOff Tryz.prog 106 1=some (1,3):=by kernel_rfl
theorem tf106_2:fOff Tryz.prog 106 2=some (2,104):=by kernel_rfl
theorem tu107:Tryz.prog.underlying 107=some (.array 3 106):=by kernel_rfl
theorem tu109:Tryz.prog.underlying 109=some (.slice 106):=by kernel_rfl
theorem tf134_0:fOff Tryz.prog 134 0=some (0,41):=by kernel_rfl
theorem tf134_1:fOff Tryz.prog 134 1=some (1,42):=by kernel_rfl
theorem tf145_0:fOff Tryz.prog 145 0=some (0,41):=by kernel_rfl
theorem tf145_1:fOff Tryz.prog 145 1=some (1,3):=by kernel_rfl
theorem tf145_2:fOff Tryz.prog 145 2=some (2,42):=by kernel_rfl
theorem ts163:(Tryz.prog.info? 163).map (·.size)=some 1:=by kernel_rfl
theorem tz163:((Tryz.prog.info? 163).bind (·.zero)).map (·.cells)=some (List.toArray [.int .i64 0]):=by kernel_rfl
theorem tf163_0:fOff Tryz.prog 163 0=some (0,42):=by kernel_rfl
end Go.Proofs.YtfhhfhdnhadooaaGreatDoor

namespace Go.Proofs.YtfhhfhdnhadooaaGreatDoor
open Go Go.RowKit
attribute [local irreducible] wpList

theorem copyBytes {S:Nat->Prop} (v:Value) (l:List UInt8) (w:World) (ha:Bs w S v l) (hl:l.length<=1000000000000) :
  Calls Tryz.prog 13 [v].toArray w (Ret (NewB 5 w l)):=by
 obtain ⟨A,c,rfl,hc,hc2,ha⟩:=ha.op
 refine kE (l:=[_]) Tryz.func13 U U ?_
 have H:=St.start nT w
 refine kR (sAs U (lkR (sAs U (ln ?_))))
 replace H:=H.nilrow 5 1
 refine kQ (kR (sAi U (ln (kb (kL 3 [] (fun mm sl W=>∃k:Nat,∃B:Option Addr,∃d:Nat,l.length - k=mm∧sl=[(4,.int .i64 (k:Int)),(3,.slice B k d)]∧(k<=l.length)∧(k<=d∧d<=9223372036854775807)∧St nT w W [Fact.row 5 1 (.slice B k d) k ((l.take k).map u8v)]) _ _ ⟨0,none,0,U,U,Nat.zero_le _,⟨Nat.le_refl _,by omega⟩,H⟩ ⟨U,U,trivial⟩ (fun mm sl ρv W hJ=>?_))))))
 clear H;obtain ⟨k,B,d,rfl,rfl,hk,hd,H⟩:=hJ
 refine ko (kQ (kR (sMi U (sMs U (sLn U tu41 (sLt U U (ln (kC U (fun hc8=>?_) (fun hc8=>?_)))))))))
 ·first|(replace hc8:=of_decide_eq_true hc8)|simp at hc8
  refine kS (kQ (kb ?_))
  have hlt:k+1<=l.length:=by omega
  refine kr (sMs U (sMs U (sMi U (sR (d_iaB U (H.rd ha) U U U (by omega) tu41 ts5) (sR (d_ldB U (H.rd ha) (l_get (by omega)) U ta5) (sf (ebs (xs:=[.tmp 15]) (vals:=[.int .u8 _]) (vs:=[.int .u8 _]) U U U U tu41 ts5 ty5 U U U H ?_)))))))
  clear H;intro g5_5 W H
  refine sf (eap tu41 tx5 U U U H (rd_blk H.blk U) (U) (by omega) U ?_)
  clear H;intro A1 c1 W hc1 hd1 H
  replace H:=H.drop
  refine sAs U (ln (kn (zE (kI U U U (by omega) U (kn (kY ?_))))))
  refine ⟨_,_,_,?_,U,?_,?_,⟨k+1,A1,c1,U,U,hlt,⟨hc1,hd1⟩,by rw [take_u8 hlt];exact H⟩⟩
  ·omega
  ·with_reducible repeat first|exact .refl|refine .f ?_ ?_ ?_;kernel_rfl;kernel_rfl|refine .u ?_ ?_;kernel_rfl
  ·refine ⟨?_,?_,trivial⟩
   ·exact vi (by omega)
   ·exact U
 ·first|(replace hc8:=of_decide_eq_false hc8)|simp at hc8
  refine ke (xt (xt ?_))
  refine xH (kQ ?_)
  obtain rfl:k=l.length:=by omega
  rw [List.take_length] at H
  refine kr (sMs U (sAs U (ln (kx ?_))))
  refine qr (v:=.slice _ _ _) U U ⟨_,U,B,d,U,hd.1,hd.2,?_⟩
  exact H.give

theorem u8_eq {z:Int} {n:Nat} (h:z=n):IntKind.u8.wrap z=((UInt8.ofNat n).toNat:Int):=by subst h;rw [IntKind.wrap_u8];simp
theorem eqb {a b:UInt8}:((a.toNat:Int) == (b.toNat:Int))=(a == b):=by
 rw [Bool.eq_iff_iff,beq_iff_eq,beq_iff_eq,Int.ofNat_inj,UInt8.toNat_inj]

theorem markBytes (i:Nat) (z:Int) (w:World) (hz:z=(i:Int)) (h1:i<=1000000000000000) :
  Calls Tryz.prog 56 [.int .i64 z].toArray w (Ret (Is w (u8v (UInt8.ofNat (201+7*i))))):=by
 subst hz
 refine kE (l:=[_]) Tryz.func56 U U ?_
 have H:=St.start nT w
 refine kR (sAi U (lkR (sMi U (sR (d_mul U U U (by omega)) (sAd U U (by omega) (sR (d_conv U U (by rw [tu3];rfl) tu5 (u8_eq (n:=201+7*i) (by omega))) ?_))))))
 refine sAi U (ln (kx ?_))
 exact qr (v:=.int _ _) U U ⟨_,U,U,Below.refl _ _⟩

def marks (k:Nat):List UInt8:=(List.range k).map fun i=>UInt8.ofNat (201+7*i)
theorem marks_succ (k:Nat):marks (k+1)=marks k++[UInt8.ofNat (201+7*k)]:=by simp [marks,List.range_succ]
theorem marks_len (k:Nat):(marks k).length=k:=by simp [marks]
theorem map_snoc (a b:List UInt8) (x:UInt8):(a++(b++[x])).map u8v=(a++b).map u8v++[u8v x]:=by simp

theorem lentBytes {S:Nat->Prop} (v:Value) (l:List UInt8) (w:World) (ha:Bs w S v l) (hl:l.length<=1000000000000) :
  Calls Tryz.prog 28 [v].toArray w (Ret (NewB 5 w (l++marks 5))):=by
 have ha0:=ha
 obtain ⟨A,c,rfl,_,_,_⟩:=ha.op
 refine kE (l:=[_]) Tryz.func28 U U ?_
 have H:=St.start nT w
 refine kR (sAs U (lkR (sMs U (sf (eN Tryz.func13 U U (copyBytes _ l _ (H.bs ha0) hl) H ?_)))))
 clear H;intro A1 c1 W hc1 hd1 H
 refine sAs U (ln (kQ (kR (sAi U (ln (kb (kL 7 [3,4] (fun mm sl W=>∃k:Nat,∃B:Option Addr,∃d:Nat,5 - k=mm∧sl=[(4,.int .i64 (k:Int)),(3,.slice B (l.length+k) d)]∧(k<=5)∧(l.length+k<=d∧d<=9223372036854775807)∧St nT w W [Fact.row 5 1 (.slice B (l.length+k) d) (l.length+k) ((l++marks k).map u8v)]) _ _ ⟨0,A1,c1,U,U,by omega,⟨hc1,hd1⟩,by rw [show marks 0=[] from U,List.append_nil];exact H⟩ ⟨U,U,trivial⟩ (fun mm sl ρv W hJ=>?_))))))))
 clear H;obtain ⟨k,B,d,rfl,rfl,hk,hd,H⟩:=hJ
 refine ko (kQ (kR (sMi U (sLt U U (ln (kC U (fun hc8=>?_) (fun hc8=>?_)))))))
 ·first|(replace hc8:=of_decide_eq_true hc8)|simp at hc8
  refine kS (kQ (kb (kr (sMs U (sMi U (sf (eI Tryz.func56 U U (markBytes k _ _ U (by omega)) H ?_)))))))
  clear H;intro W H
  refine sf (ebs (xs:=[.tmp 13]) (vals:=[.int .u8 _]) (vs:=[.int .u8 _]) U U U U tu41 ts5 ty5 U U U H ?_)
  clear H;intro g5_3 W H
  refine sf (eap tu41 tx5 U U U H (rd_blk H.blk U) (U) (by omega) U ?_)
  clear H;intro A2 c2 W hc2 hd2 H
  replace H:=H.drop
  refine sAs U (ln (kn (zE (kI U U U (by omega) U (kn (kY ?_))))))
  refine ⟨_,_,_,?_,U,?_,?_,⟨k+1,A2,c2,U,U,by omega,⟨hc2,hd2⟩,by rw [marks_succ,map_snoc];exact H⟩⟩
  ·omega
  ·with_reducible repeat first|exact .refl|refine .f ?_ ?_ ?_;kernel_rfl;kernel_rfl|refine .u ?_ ?_;kernel_rfl
  ·refine ⟨?_,?_,trivial⟩
   ·exact vi (by omega)
   ·exact U
 ·first|(replace hc8:=of_decide_eq_false hc8)|simp at hc8
  refine ke (xt (xt ?_))
  refine xH (kQ ?_)
  obtain rfl:k=5:=by omega
  refine kr (sMs U (sAs U (ln (kx ?_))))
  refine qr (v:=.slice _ _ _) U U ⟨_,U,B,d,?_⟩
  have e:(l++marks 5).length=l.length+5:=by rw [List.length_append,marks_len]
  rw [e]
  exact ⟨U,hd.1,hd.2,H.give⟩

theorem sameBytes {S S':Nat->Prop} (v u:Value) (l r:List UInt8) (w:World) (ha:Bs w S v l) (hb:Bs w S' u r) :
  Calls Tryz.prog 19 [v,u].toArray w (Ret (Is w (.bool (decide (l=r))))):=by
 have hn:=ha.len
 have hm:=hb.len
 obtain ⟨A,c,rfl,_,_,ha⟩:=ha.op
 obtain ⟨B,d,rfl,_,_,hb⟩:=hb.op
 refine kE (l:=[_,_]) Tryz.func19 U U ?_
 have H:=St.start nT w
 refine kR (sAb U (ln (kQ (kR (sMs U (sLn U tu41 (sMs U (sLn U tu41 (sNe U U (ln (kC U (fun hc10=>?_) (fun hc10=>?_))))))))))))
 ·simp at hc10
  refine kR (sAb U (ln (kx ?_)))
  refine qr (v:=.bool _) U U ⟨_,U,vb ?_,H.under⟩
  exact (decide_eq_false fun h=>hc10 (by rw [h])).symm
 ·simp at hc10
  refine kS (kQ (kR (sAi U (ln (kb (kL 11 [4,5] (fun mm sl W=>∃k:Nat,l.length - k=mm∧sl=[(5,.int .i64 (k:Int))]∧(k<=l.length)∧(l.take k=r.take k)∧St nT w W []) _ _ ⟨0,U,U,Nat.zero_le _,U,H⟩ ⟨U,trivial⟩ (fun mm sl ρv W hJ=>?_)))))))
  clear H;obtain ⟨k,rfl,rfl,hk,ht,H⟩:=hJ
  refine ko (kQ (kR (sMi U (sMs U (sLn U tu41 (sLt U U (ln (kC U (fun hc14=>?_) (fun hc14=>?_)))))))))
  ·first|(replace hc14:=of_decide_eq_true hc14)|simp at hc14
   refine kS (kQ (kb (kQ (k_draw [(0,true),(1,true),(2,true),(3,true),(4,true),(5,true),(6,true),(7,true),(8,true),(9,true)] _ (by kernel_rfl) (by kernel_rfl) H (.refl _) ?_))))
   clear H;intro W H
   refine cMs U U (cMi U U (cR U (fun W H=>d_iaB U (H.rd ha) U U U (by omega) tu41 ts5) (cR U (fun W H=>d_ldB U (H.rd ha) (l_get (by omega)) U ta5) (cMs U U (cMi U U (cR U (fun W H=>d_iaB U (H.rd hb) U U U (by omega) tu41 ts5) (cR U (fun W H=>d_ldB U (H.rd hb) (l_get (by omega)) U ta5) (cR U (fun W H=>d_eq U U U) (cR U (fun W H=>d_not U U) (c_nil (kC U (fun hc26=>?_) (fun hc26=>?_))))))))))))
   ·rw [eqb,Bool.not_eq_true',beq_eq_false_iff_ne] at hc26
    refine kR (sAb U (ln (kx ?_)))
    refine qr (v:=.bool _) U U ⟨_,U,vb ?_,H.under⟩
    exact (decide_eq_false fun h=>hc26 (by rw [h])).symm
   ·rw [eqb,Bool.not_eq_false',beq_iff_eq] at hc26
    refine kS (kn (zE (kI U U U (by omega) U (kn (kY ?_)))))
    refine ⟨_,_,_,?_,U,?_,?_,⟨k+1,U,U,by omega,by rw [List.take_add_one,List.take_add_one,ht,l_get (by omega),l_get (by omega),hc26],H⟩⟩
    ·omega
    ·with_reducible repeat first|exact .refl|refine .f ?_ ?_ ?_;kernel_rfl;kernel_rfl|refine .u ?_ ?_;kernel_rfl
    ·refine ⟨?_,trivial⟩
     ·exact vi (by omega)
  ·first|(replace hc14:=of_decide_eq_false hc14)|simp at hc14
   refine ke (xt (xt ?_))
   refine xH (kR (sAb U (ln (kx ?_))))
   refine qr (v:=.bool _) U U ⟨_,U,vb ?_,H.under⟩
   rw [List.take_of_length_le (by omega),List.take_of_length_le (by omega)] at ht
   simp [ht]

def rowL (k:Nat):List UInt8:=(List.range k).map fun i=>UInt8.ofNat ((7+i) % 251)
def pick (v n:Int):Int:=if n<1 then 0 else v % n
theorem tmod_bd (v n:Int) (hn:1<=n) : -n<v.tmod n∧v.tmod n<n∧(v.tmod n<0->v.tmod n+n=v % n)∧(0<=v.tmod n->v.tmod n=v % n):=by
 have h1:=Int.mul_tdiv_add_tmod v n
 have h2:v.tmod n<n:=Int.tmod_lt_of_pos v (by omega)
 have h3 : -n<v.tmod n:=by
  have:=Int.tmod_lt_of_pos (-v) (show (0:Int)<n by omega)
  rw [Int.neg_tmod] at this;omega
 have h4:v % n=(v.tmod n) % n:=by
  conv=>lhs;rw [←h1]
  rw [Int.add_comm,Int.add_mul_emod_self_left]
 refine ⟨h3,h2,fun h=>?_,fun h=>?_⟩
 ·rw [h4,←Int.add_emod_right,Int.emod_eq_of_lt (by omega) (by omega)]
 ·rw [h4,Int.emod_eq_of_lt h h2]
theorem pick_any (v n:Int) (w:World) (hn : -9223372036854775808<=n∧n<=9223372036854775807):Calls Tryz.prog 34 [.int .i64 v,.int .i64 n].toArray w (Ret (Is w (.int .i64 (pick v n)))):=by
 refine kE (l:=[_,_]) Tryz.func34 U U ?_
 have H:=St.start nT w
 refine kR (sAi U (ln (kQ (kR (sMi U (sLt U U (ln (kC U (fun hc6=>?_) (fun hc6=>?_)))))))))
 ·replace hc6:=of_decide_eq_true hc6
  refine kR (sAi U (ln (kx ?_)))
  refine qr (v:=.int _ _) U U ⟨_,U,vi ?_,H.under⟩
  rw [pick,if_pos hc6]
 ·replace hc6:=of_decide_eq_false hc6
  refine kS (kR (sMi U (sMi U (sR (d_remT U U U (by omega)) (sAi U (ln ?_))))))
  have htm:=tmod_bd v n (by omega)
  refine kQ (kR (sMi U (sLt U U (ln (kC U (fun hc11=>?_) (fun hc11=>?_))))))
  ·replace hc11:=of_decide_eq_true hc11
   refine kr (sMi U (sMi U (sAd U U (by omega) (sAi U (lkR (sMi U (sAi U (ln (kx ?_)))))))))
   refine qr (v:=.int _ _) U U ⟨_,U,vi ?_,H.under⟩
   rw [pick,if_neg hc6]
   exact htm.2.2.1 hc11
  ·replace hc11:=of_decide_eq_false hc11
   refine kS (kR (sMi U (sAi U (ln (kx ?_)))))
   refine qr (v:=.int _ _) U U ⟨_,U,vi ?_,H.under⟩
   rw [pick,if_neg hc6]
   exact htm.2.2.2 (by omega)

theorem sl_eq {A:Option Addr} {m n c:Nat} (h:m=n):Value.slice A m c=.slice A n c:=by rw [h]
def formsC:List Value:=[.int .u8 253,.int .i64 2,.int .u64 253,.int .u8 254,.int .i64 4,.int .u64 65536,.int .u8 255,.int .i64 8,.int .u64 4294967296]

theorem grow_nil (q:Nat) (z:Int) (w:World) (hz:z=(q:Int)) (hq:q<=1099511627776) :
  Calls Tryz.prog 146 [.slice none 0 0,.int .i64 z].toArray w (Ret fun v w'=>∃A c,v=.slice A 0 c∧c<=9223372036854775807∧New w w' (Fact.row 5 1 (.slice A 0 c) 0 [])):=by
 subst hz
 refine kE (l:=[_,_]) Tryz.func146 U U ?_
 have H:=St.start nT w
 refine kR (sAs U (ln (kQ (kR (sMi U (sLt U U (ln (kF U (by first|(simp;done)|(simp;omega)) ?_))))))))
 refine kS (kQ (kR (sMi U (sMs U (sR (d_cap U U tu41) (sMs U (sLn U tu41 (sR (d_sub U U U (by omega)) (sR (d_sub U U U (by omega)) (sAi U (lkR (sMi U ?_))))))))))))
 refine sR (d_gt U U U) (ln (kC U (fun hc16=>?_) (fun hc16=>?_)))
 ·first|(replace hc16:=of_decide_eq_true hc16)|simp at hc16
  refine kr (sMs U (sMs U (sR (d_cap U U tu41) (sR (d_cutP U U (h:=0) U (by omega) U tu41 ts5) (sMi U (sf (e_appz (wn U) U U tu41 tu3 (by kernel_rfl) U U (q:=q) (by omega) (by omega) (by omega) H ?_)))))))
  clear H;intro A1 c1 W hc1 hd1 H
  refine sMs U (sLn U tu41 ?_)
  have hs:A1.isSome=true:=row_some (H.rowrd (A:=A1)) (by omega)
  replace H:=H.rowcut (q:=0) (Nat.zero_le _) hs
  rw [Nat.zero_mul,List.take_zero] at H
  refine sR (d_cutP U U (h:=0) U (by omega) U tu41 ts5) (sAs U (lkR (sMs U (sAs U (ln (kx ?_))))))
  exact qr (v:=.slice _ _ _) U U ⟨_,U,_,_,U,hd1,H.give⟩
 ·first|(replace hc16:=of_decide_eq_false hc16)|simp at hc16
  refine kS (kR (sMs U (sAs U (ln (kx ?_)))))
  replace H:=H.nilrow 5 1
  exact qr (v:=.slice _ _ _) U U ⟨_,U,_,_,U,by omega,H.give⟩

theorem concat2 {S S1 S2:Nat->Prop} {A B C:Option Addr} {n m c d e:Nat} {l r:List UInt8} (w:World) (hs:Rd w S 1 C 2 [.slice A n c,.slice B m d]) (ha:Rd w S1 1 A n (l.map u8v)) (hb:Rd w S2 1 B m (r.map u8v)) (hl:n+m<=1000000000000) :
  Calls Tryz.prog 103 [.slice C 2 e].toArray w (Ret (NewB 5 w (l++r))):=by
 have hn:l.length=n:=by simpa using ha.1
 have hm:r.length=m:=by simpa using hb.1
 refine kE (l:=[_]) Tryz.func103 U U ?_
 have H:=St.start nT w
 refine kR (sAs U (lkR (sAi U (ln (kQ (kR (sMs U (sLn U tu62 (sMi U (ln (kb (k_unr (ko ?_)))))))))))))
 refine kR (sLt U U (ln (kQ (kT U (by first|(simp;done)|(simp;omega)) ?_))))
 refine kS (kQ (kb (kR (sR (d_iaS U (H.rd hs) U U (q:=0) U (by omega) tu62 ts41) (sR (d_ldR0 U (H.rd hs) U ta41 U) (sAs U (lkR (sMi U (sMs U (sLn U tu41 (sAd U U (by omega) (sAi U ?_))))))))))))
 refine lkR (sMi U (sLt U U (ln (kF U (by first|(simp;done)|(simp;omega)) ?_))))
 refine kS (kn (zE (kr (sAd U U (by omega) (sMi U (ln (kn (kY (hd_of (ko ?_))))))))))
 refine kR (sLt U U (ln (kQ (kT U (by first|(simp;done)|(simp;omega)) ?_))))
 refine kS (kQ (kb (kR (sR (d_iaS U (H.rd hs) U U (q:=1) U (by omega) tu62 ts41) (sR (d_ldR0 U (H.rd hs) U ta41 U) (sAs U (lkR (sMi U (sMs U (sLn U tu41 (sAd U U (by omega) (sAi U ?_))))))))))))
 refine lkR (sMi U (sLt U U (ln (kF U (by first|(simp;done)|(simp;omega)) ?_))))
 refine kS (kn (zE (kr (sAd U U (by omega) (sMi U (ln (kn (kY (hd_of (ko ?_))))))))))
 refine kR (sLt U U (ln (kQ (kF U (by first|(simp;done)|(simp;omega)) ?_))))
 refine ke (xt (xt ?_))
 refine xH (kR (sMi U (sf (ecl Tryz.func146 U U (grow_nil (n+m) _ _ (by omega) (by omega)) ?_))))
 rintro _ W ⟨A1,c1,rfl,hd1,hn1⟩
 replace H:=H.new hn1
 clear hn1
 refine sAs U (ln (kQ (kR (sMs U (sLn U tu62 (sMi U (ln (kb (k_unr (ko ?_))))))))))
 refine kR (sLt U U (ln (kQ (kT U (by first|(simp;done)|(simp;omega)) ?_))))
 refine kS (kQ (kb (kR (sR (d_iaS U (H.rd hs) U U (q:=0) U (by omega) tu62 ts41) (sR (d_ldR0 U (H.rd hs) U ta41 U) (sAs U (ln (kr (sMs U (sMs U (sf (eap tu41 tx5 U U U H (H.rd ha) (all_u8L _) (by omega) U ?_))))))))))))
 clear H;intro A2 c2 W hc2 hd2 H
 refine sAs U (ln (kn (zE (kr (sAd U U (by omega) (sMi U (ln (kn (kY (hd_of (ko ?_)))))))))))
 refine kR (sLt U U (ln (kQ (kT U (by first|(simp;done)|(simp;omega)) ?_))))
 refine kS (kQ (kb (kR (sR (d_iaS U (H.rd hs) U U (q:=1) U (by omega) tu62 ts41) (sR (d_ldR0 U (H.rd hs) U ta41 U) (sAs U (ln (kr (sMs U (sMs U (sf (eap tu41 tx5 U U U H (H.rd hb) (all_u8L _) (by omega) U ?_))))))))))))
 clear H;intro A3 c3 W hc3 hd3 H
 refine sAs U (ln (kn (zE (kr (sAd U U (by omega) (sMi U (ln (kn (kY (hd_of (ko ?_)))))))))))
 refine kR (sLt U U (ln (kQ (kF U (by first|(simp;done)|(simp;omega)) ?_))))
 refine ke (xt (xt ?_))
 refine xH (kR (sMs U (sAs U (ln (kx ?_)))))
 exact qr (v:=.slice _ _ _) U U ⟨_,U,H.newB (by simp;omega) (by simp) hc3 hd3⟩

theorem behind {S1 S2:Nat->Prop} {v u:Value} {l r:List UInt8} (w:World) (ha:Bs w S1 v l) (hb:Bs w S2 u r) (hl:l.length+r.length<=1000000000000) :
  Calls Tryz.prog 80 [v,u].toArray w (Ret (NewB 5 w (l++r))):=by
 obtain ⟨A,c,rfl,_,_,ha⟩:=ha.op
 obtain ⟨B,d,rfl,_,_,hb⟩:=hb.op
 refine kE (l:=[_,_]) Tryz.func80 U U ?_
 have H:=St.start nT w
 refine kR (sAs U (lkR (sMs U (sMs U (sf (ebs (xs:=[.tmp 5,.tmp 6]) (vals:=[.slice _ _ _,.slice _ _ _]) (vs:=[.slice _ _ _,.slice _ _ _]) U U U U tu62 ts41 ty41 U U U H ?_))))))
 clear H;intro g1_2 W H
 refine sf (eN Tryz.func103 U U (concat2 _ (rd_blk H.blk U) (H.rd ha) (H.rd hb) hl) H ?_)
 clear H;intro A1 c1 W hc1 hd1 H
 refine sAs U (ln (kx ?_))
 exact qr (v:=.slice _ _ _) U U ⟨_,U,H.newB U U hc1 hd1⟩

theorem packInt1 {S:Nat->Prop} {v:Value} {b:List UInt8} (n:Int) (w:World) (hG:Gat w 0 formsC) (hb:Bs w S v b) (hn : -9223372036854775808<=n∧n<=9223372036854775807) (hl:b.length<=500000000000) (hu:Pk.toU n<253) :
  Calls Tryz.prog 37 [v,.int .i64 n].toArray w (Ret (NewB 5 w (b++Pk.int (Pk.toU n)))):=by
 have hc:=u64_wrap n
 have hcast:=Pk.toU_cast n
 have hlt:=Pk.toU_lt n
 generalize Pk.toU n=u at *
 have hb0:=hb
 obtain ⟨A,c,rfl,_,_,_⟩:=hb.op
 refine kE (l:=[_,_]) Tryz.func37 U U ?_
 have H:=St.start nT w
 refine kR (sAs U (lkR (sMi U (sR (d_conv U U (by rw [tu3];rfl) tu104 hc) ?_))))
 refine sAi U (ln (kQ (kR (sMi U (sR (d_iaA U U U (q:=0) U tu107 (by omega) ts106) (sFa U tf106_2 (sR (d_ldG U (H.gat hG) U ta104 U) (sLt U U (ln (kT U (by first|(simp;done)|(simp;omega)) ?_))))))))))
 refine kR (sMs U (sMi U (sR (d_conv U U (by rw [tu3];rfl) tu5 (u8_eq (n:=u) (by omega))) ?_)))
 refine sf (ebs (xs:=[.tmp 20]) (vals:=[.int .u8 _]) (vs:=[.int .u8 _]) U U U U tu41 ts5 ty5 U U U H ?_)
 clear H;intro g3_3 W H
 refine sf (eN Tryz.func80 U U (behind _ (H.bs hb0) (Bs.mk (l:=[UInt8.ofNat u]) (rd_blk H.blk U) (by omega) (by omega)) (by simp;omega)) H ?_)
 clear H;intro A1 c1 W hc1 hd1 H
 refine sAs U (ln (kx ?_))
 exact qr (v:=.slice _ _ _) U U ⟨_,U,H.newB (by rw [Pk.int_1 hu]) (by rw [Pk.int_1 hu]) hc1 hd1⟩

theorem packInt2 {S:Nat->Prop} {v:Value} {b:List UInt8} (n:Int) (w:World) (hG:Gat w 0 formsC) (hb:Bs w S v b) (hl:b.length<=500000000000) (hu:253<=Pk.toU n∧Pk.toU n<65536) :
  Calls Tryz.prog 37 [v,.int .i64 n].toArray w (Ret (NewB 5 w (b++Pk.int (Pk.toU n)))):=by
 have hc:=u64_wrap n
 have hcast:=Pk.toU_cast n
 have hlt:=Pk.toU_lt n
 generalize Pk.toU n=u at *
 have hb0:=hb
 obtain ⟨A,c,rfl,_,_,_⟩:=hb.op
 refine kE (l:=[_,_]) Tryz.func37 U U ?_
 have H:=St.start nT w
 refine kR (sAs U (lkR (sMi U (sR (d_conv U U (by rw [tu3];rfl) tu104 hc) ?_))))
 refine sAi U (ln (kQ (kR (sMi U (sR (d_iaA U U U (q:=0) U tu107 (by omega) ts106) (sFa U tf106_2 (sR (d_ldG U (H.gat hG) U ta104 U) (sLt U U (ln (kF U (by first|(simp;done)|(simp;omega)) ?_))))))))))
 refine kS (kR (sR (d_iaA U U U (q:=0) U tu107 (by omega) ts106) (sR (d_ldmG U (H.gat hG) U ta106 ts106 U) (sf (eal [.int .u8 0,.int .i64 0,.int .u64 0] tz106 H ?_)))))
 clear H;intro g4_2 W H
 refine sf (e_sto (wn U) U U U U U ts106 U H U ?_)
 clear H;intro W H
 refine ln (kQ (kR (sR (d_arrS U U U (l:=1) U tu107 (by omega) ts106) (sLn U tu109 (sMi U (ln (kb (k_unr (ko ?_)))))))))
 refine kR (sLt U U (ln (kQ (kT U (by first|(simp;done)|(simp;omega)) ?_))))
 refine kS (kQ (kb (kR (sR (d_iaS U ((H.gat hG).rd (i:=3) (s:=3) (q:=2) U) U U (q:=0) U (by decide) tu109 ts106) (sR (d_ldmR (q:=0) U ((H.gat hG).rd (i:=3) (s:=3) (q:=2) U) U ta106 ts106 (by decide) (by decide)) (sf (eal [.int .u8 0,.int .i64 0,.int .u64 0] tz106 H ?_)))))))
 clear H;intro g7_2 W H
 refine sf (e_sto (wn U) U U U U U ts106 U H U ?_)
 clear H;intro W H
 refine lkR (sMi U (sFa U tf106_2 (sR (d_ld U H U ta104 U) (sR (d_ge U U U) (ln (kF U (by first|(simp;done)|(simp;omega)) ?_))))))
 refine kS (kn (zE (kr (sAd U U (by omega) (sMi U (ln (kn (kY (hd_of (ko ?_))))))))))
 refine kR (sLt U U (ln (kQ (kT U (by first|(simp;done)|(simp;omega)) ?_))))
 refine kS (kQ (kb (kR (sR (d_iaS U ((H.gat hG).rd (i:=3) (s:=3) (q:=2) U) U U (q:=1) (by omega) (by decide) tu109 ts106) (sR (d_ldmR (q:=1) U ((H.gat hG).rd (i:=3) (s:=3) (q:=2) U) U ta106 ts106 (by decide) (by decide)) (sf (eal [.int .u8 0,.int .i64 0,.int .u64 0] tz106 H ?_)))))))
 clear H;intro g7_2 W H
 refine sf (e_sto (wn U) U U U U U ts106 U H U ?_)
 clear H;intro W H
 refine lkR (sMi U (sFa U tf106_2 (sR (d_ld U H U ta104 U) (sR (d_ge U U U) (ln (kF U (by first|(simp;done)|(simp;omega)) ?_))))))
 refine kS (kn (zE (kr (sAd U U (by omega) (sMi U (ln (kn (kY (hd_of (ko ?_))))))))))
 refine kR (sLt U U (ln (kQ (kF U (by first|(simp;done)|(simp;omega)) ?_))))
 refine ke (xt (xt ?_))
 refine xH (kR (sMs U (sFa U tf106_0 (sR (d_ld U H U ta5 U) (sf (ebs (xs:=[.tmp 39]) (vals:=[.int .u8 _]) (vs:=[.int .u8 _]) U U U U tu41 ts5 ty5 U U U H ?_))))))
 clear H;intro g11_3 W H
 refine sf (eN Tryz.func80 U U (behind _ (H.bs hb0) (Bs.mk (l:=[253]) (rd_blk H.blk U) (by omega) (by omega)) (by simp;omega)) H ?_)
 clear H;intro A1 c1 W hc1 hd1 H
 refine sAs U (ln (kQ (kR (sFa U tf106_1 (sR (d_ld U H U ta3 U) (sMi U (ln ?_)))))))
 replace H:=H.sub (L':=[_]) (.cons_cons _ (List.nil_sublist _))
 refine kb (kL 44 [9,10] (fun mm sl W=>∃k:Nat,∃B:Option Addr,∃d:Nat,2 - k=mm∧sl=[(44,.int .i64 (k:Int)),(9,.slice B (b.length+1+k) d)]∧(k<=2)∧(b.length+1+k<=d∧d<=9223372036854775807)∧St nT w W [Fact.row 5 1 (.slice B (b.length+1+k) d) (b.length+1+k) ((b++253::Pk.le u k).map u8v)]) _ _ ⟨0,A1,c1,U,U,by omega,⟨by simpa using hc1,hd1⟩,by simpa [Pk.le] using H⟩ ⟨U,sl_eq (by simp),trivial⟩ (fun mm sl ρv W hJ=>?_))
 clear H;obtain ⟨k,B,d,rfl,rfl,hk,hd,H⟩:=hJ
 refine ko (kR (sLt U U (ln (kQ (kC U (fun hc45=>?_) (fun hc45=>?_))))))
 ·first|(replace hc45:=of_decide_eq_true hc45)|simp at hc45
  refine kS (kQ (kb (kR (sMi U (sAi U (ln (kr (sMs U (sMi U (sMi U (sR (d_mul U U U (by omega)) (sR (d_shr U U U (m:=8*k) U (by show 8*k<=64;omega)) ?_))))))))))))
  refine sR (d_conv U U (by rw [tu104];rfl) tu5 (u8_eq (shr_le u k))) ?_
  refine sf (ebs (xs:=[.tmp 52]) (vals:=[.int .u8 _]) (vs:=[.int .u8 _]) U U U U tu41 ts5 ty5 U U U H ?_)
  clear H;intro g15_6 W H
  refine sf (eap tu41 tx5 U U U H (rd_blk H.blk U) (U) (by omega) U ?_)
  clear H;intro A2 c2 W hc2 hd2 H
  replace H:=H.drop
  refine sAs U (ln (kn (zE (kr (sAd U U (by omega) (sMi U (ln (kn (kY ?_)))))))))
  refine ⟨_,_,_,?_,U,?_,?_,⟨k+1,A2,c2,U,U,by omega,⟨by omega,hd2⟩,by rw [Pk.le_succ,←List.cons_append,map_snoc];exact H⟩⟩
  ·omega
  ·with_reducible repeat first|exact .refl|refine .f ?_ ?_ ?_;kernel_rfl;kernel_rfl|refine .u ?_ ?_;kernel_rfl
  ·refine ⟨?_,?_,trivial⟩
   ·exact vi (by omega)
   ·exact U
 ·first|(replace hc45:=of_decide_eq_false hc45)|simp at hc45
  refine ke (xt (xt ?_))
  refine xH (kQ ?_)
  obtain rfl:k=2:=by omega
  refine kr (sMs U (sAs U (ln (kx ?_))))
  exact qr (v:=.slice _ _ _) U U ⟨_,U,H.newB (by rw [Pk.int_2 hu.1 hu.2];simp [Pk.len_le]) (by rw [Pk.int_2 hu.1 hu.2]) hd.1 hd.2⟩

theorem packInt4 {S:Nat->Prop} {v:Value} {b:List UInt8} (n:Int) (w:World) (hG:Gat w 0 formsC) (hb:Bs w S v b) (hl:b.length<=500000000000) (hu:65536<=Pk.toU n∧Pk.toU n<4294967296) :
  Calls Tryz.prog 37 [v,.int .i64 n].toArray w (Ret (NewB 5 w (b++Pk.int (Pk.toU n)))):=by
 have hc:=u64_wrap n
 have hcast:=Pk.toU_cast n
 have hlt:=Pk.toU_lt n
 generalize Pk.toU n=u at *
 have hb0:=hb
 obtain ⟨A,c,rfl,_,_,_⟩:=hb.op
 refine kE (l:=[_,_]) Tryz.func37 U U ?_
 have H:=St.start nT w
 refine kR (sAs U (lkR (sMi U (sR (d_conv U U (by rw [tu3];rfl) tu104 hc) ?_))))
 refine sAi U (ln (kQ (kR (sMi U (sR (d_iaA U U U (q:=0) U tu107 (by omega) ts106) (sFa U tf106_2 (sR (d_ldG U (H.gat hG) U ta104 U) (sLt U U (ln (kF U (by first|(simp;done)|(simp;omega)) ?_))))))))))
 refine kS (kR (sR (d_iaA U U U (q:=0) U tu107 (by omega) ts106) (sR (d_ldmG U (H.gat hG) U ta106 ts106 U) (sf (eal [.int .u8 0,.int .i64 0,.int .u64 0] tz106 H ?_)))))
 clear H;intro g4_2 W H
 refine sf (e_sto (wn U) U U U U U ts106 U H U ?_)
 clear H;intro W H
 refine ln (kQ (kR (sR (d_arrS U U U (l:=1) U tu107 (by omega) ts106) (sLn U tu109 (sMi U (ln (kb (k_unr (ko ?_)))))))))
 refine kR (sLt U U (ln (kQ (kT U (by first|(simp;done)|(simp;omega)) ?_))))
 refine kS (kQ (kb (kR (sR (d_iaS U ((H.gat hG).rd (i:=3) (s:=3) (q:=2) U) U U (q:=0) U (by decide) tu109 ts106) (sR (d_ldmR (q:=0) U ((H.gat hG).rd (i:=3) (s:=3) (q:=2) U) U ta106 ts106 (by decide) (by decide)) (sf (eal [.int .u8 0,.int .i64 0,.int .u64 0] tz106 H ?_)))))))
 clear H;intro g7_2 W H
 refine sf (e_sto (wn U) U U U U U ts106 U H U ?_)
 clear H;intro W H
 refine lkR (sMi U (sFa U tf106_2 (sR (d_ld U H U ta104 U) (sR (d_ge U U U) (ln (kT U (by first|(simp;done)|(simp;omega)) ?_))))))
 refine kr (sR (d_ldm U H U ta106 ts106 U) ?_)
 refine sf (e_sto (wn U) U U U U U ts106 U H U ?_)
 clear H;intro W H
 refine ln (kn (zE (kr (sAd U U (by omega) (sMi U (ln (kn (kY (hd_of (ko ?_))))))))))
 refine kR (sLt U U (ln (kQ (kT U (by first|(simp;done)|(simp;omega)) ?_))))
 refine kS (kQ (kb (kR (sR (d_iaS U ((H.gat hG).rd (i:=3) (s:=3) (q:=2) U) U U (q:=1) (by omega) (by decide) tu109 ts106) (sR (d_ldmR (q:=1) U ((H.gat hG).rd (i:=3) (s:=3) (q:=2) U) U ta106 ts106 (by decide) (by decide)) (sf (eal [.int .u8 0,.int .i64 0,.int .u64 0] tz106 H ?_)))))))
 clear H;intro g7_2 W H
 refine sf (e_sto (wn U) U U U U U ts106 U H U ?_)
 clear H;intro W H
 refine lkR (sMi U (sFa U tf106_2 (sR (d_ld U H U ta104 U) (sR (d_ge U U U) (ln (kF U (by first|(simp;done)|(simp;omega)) ?_))))))
 refine kS (kn (zE (kr (sAd U U (by omega) (sMi U (ln (kn (kY (hd_of (ko ?_))))))))))
 refine kR (sLt U U (ln (kQ (kF U (by first|(simp;done)|(simp;omega)) ?_))))
 refine ke (xt (xt ?_))
 refine xH (kR (sMs U (sFa U tf106_0 (sR (d_ld U H U ta5 U) (sf (ebs (xs:=[.tmp 39]) (vals:=[.int .u8 _]) (vs:=[.int .u8 _]) U U U U tu41 ts5 ty5 U U U H ?_))))))
 clear H;intro g11_3 W H
 refine sf (eN Tryz.func80 U U (behind _ (H.bs hb0) (Bs.mk (l:=[254]) (rd_blk H.blk U) (by omega) (by omega)) (by simp;omega)) H ?_)
 clear H;intro A1 c1 W hc1 hd1 H
 refine sAs U (ln (kQ (kR (sFa U tf106_1 (sR (d_ld U H U ta3 U) (sMi U (ln ?_)))))))
 replace H:=H.sub (L':=[_]) (.cons_cons _ (List.nil_sublist _))
 refine kb (kL 44 [9,10] (fun mm sl W=>∃k:Nat,∃B:Option Addr,∃d:Nat,4 - k=mm∧sl=[(44,.int .i64 (k:Int)),(9,.slice B (b.length+1+k) d)]∧(k<=4)∧(b.length+1+k<=d∧d<=9223372036854775807)∧St nT w W [Fact.row 5 1 (.slice B (b.length+1+k) d) (b.length+1+k) ((b++254::Pk.le u k).map u8v)]) _ _ ⟨0,A1,c1,U,U,by omega,⟨by simpa using hc1,hd1⟩,by simpa [Pk.le] using H⟩ ⟨U,sl_eq (by simp),trivial⟩ (fun mm sl ρv W hJ=>?_))
 clear H;obtain ⟨k,B,d,rfl,rfl,hk,hd,H⟩:=hJ
 refine ko (kR (sLt U U (ln (kQ (kC U (fun hc45=>?_) (fun hc45=>?_))))))
 ·first|(replace hc45:=of_decide_eq_true hc45)|simp at hc45
  refine kS (kQ (kb (kR (sMi U (sAi U (ln (kr (sMs U (sMi U (sMi U (sR (d_mul U U U (by omega)) (sR (d_shr U U U (m:=8*k) U (by show 8*k<=64;omega)) ?_))))))))))))
  refine sR (d_conv U U (by rw [tu104];rfl) tu5 (u8_eq (shr_le u k))) ?_
  refine sf (ebs (xs:=[.tmp 52]) (vals:=[.int .u8 _]) (vs:=[.int .u8 _]) U U U U tu41 ts5 ty5 U U U H ?_)
  clear H;intro g15_6 W H
  refine sf (eap tu41 tx5 U U U H (rd_blk H.blk U) (U) (by omega) U ?_)
  clear H;intro A2 c2 W hc2 hd2 H
  replace H:=H.drop
  refine sAs U (ln (kn (zE (kr (sAd U U (by omega) (sMi U (ln (kn (kY ?_)))))))))
  refine ⟨_,_,_,?_,U,?_,?_,⟨k+1,A2,c2,U,U,by omega,⟨by omega,hd2⟩,by rw [Pk.le_succ,←List.cons_append,map_snoc];exact H⟩⟩
  ·omega
  ·with_reducible repeat first|exact .refl|refine .f ?_ ?_ ?_;kernel_rfl;kernel_rfl|refine .u ?_ ?_;kernel_rfl
  ·refine ⟨?_,?_,trivial⟩
   ·exact vi (by omega)
   ·exact U
 ·first|(replace hc45:=of_decide_eq_false hc45)|simp at hc45
  refine ke (xt (xt ?_))
  refine xH (kQ ?_)
  obtain rfl:k=4:=by omega
  refine kr (sMs U (sAs U (ln (kx ?_))))
  exact qr (v:=.slice _ _ _) U U ⟨_,U,H.newB (by rw [Pk.int_4 hu.1 hu.2];simp [Pk.len_le]) (by rw [Pk.int_4 hu.1 hu.2]) hd.1 hd.2⟩

theorem packInt8 {S:Nat->Prop} {v:Value} {b:List UInt8} (n:Int) (w:World) (hG:Gat w 0 formsC) (hb:Bs w S v b) (hl:b.length<=500000000000) (hu:4294967296<=Pk.toU n) :
  Calls Tryz.prog 37 [v,.int .i64 n].toArray w (Ret (NewB 5 w (b++Pk.int (Pk.toU n)))):=by
 have hc:=u64_wrap n
 have hcast:=Pk.toU_cast n
 have hlt:=Pk.toU_lt n
 generalize Pk.toU n=u at *
 have hb0:=hb
 obtain ⟨A,c,rfl,_,_,_⟩:=hb.op
 refine kE (l:=[_,_]) Tryz.func37 U U ?_
 have H:=St.start nT w
 refine kR (sAs U (lkR (sMi U (sR (d_conv U U (by rw [tu3];rfl) tu104 hc) ?_))))
 refine sAi U (ln (kQ (kR (sMi U (sR (d_iaA U U U (q:=0) U tu107 (by omega) ts106) (sFa U tf106_2 (sR (d_ldG U (H.gat hG) U ta104 U) (sLt U U (ln (kF U (by first|(simp;done)|(simp;omega)) ?_))))))))))
 refine kS (kR (sR (d_iaA U U U (q:=0) U tu107 (by omega) ts106) (sR (d_ldmG U (H.gat hG) U ta106 ts106 U) (sf (eal [.int .u8 0,.int .i64 0,.int .u64 0] tz106 H ?_)))))
 clear H;intro g4_2 W H
 refine sf (e_sto (wn U) U U U U U ts106 U H U ?_)
 clear H;intro W H
 refine ln (kQ (kR (sR (d_arrS U U U (l:=1) U tu107 (by omega) ts106) (sLn U tu109 (sMi U (ln (kb (k_unr (ko ?_)))))))))
 refine kR (sLt U U (ln (kQ (kT U (by first|(simp;done)|(simp;omega)) ?_))))
 refine kS (kQ (kb (kR (sR (d_iaS U ((H.gat hG).rd (i:=3) (s:=3) (q:=2) U) U U (q:=0) U (by decide) tu109 ts106) (sR (d_ldmR (q:=0) U ((H.gat hG).rd (i:=3) (s:=3) (q:=2) U) U ta106 ts106 (by decide) (by decide)) (sf (eal [.int .u8 0,.int .i64 0,.int .u64 0] tz106 H ?_)))))))
 clear H;intro g7_2 W H
 refine sf (e_sto (wn U) U U U U U ts106 U H U ?_)
 clear H;intro W H
 refine lkR (sMi U (sFa U tf106_2 (sR (d_ld U H U ta104 U) (sR (d_ge U U U) (ln (kT U (by first|(simp;done)|(simp;omega)) ?_))))))
 refine kr (sR (d_ldm U H U ta106 ts106 U) ?_)
 refine sf (e_sto (wn U) U U U U U ts106 U H U ?_)
 clear H;intro W H
 refine ln (kn (zE (kr (sAd U U (by omega) (sMi U (ln (kn (kY (hd_of (ko ?_))))))))))
 refine kR (sLt U U (ln (kQ (kT U (by first|(simp;done)|(simp;omega)) ?_))))
 refine kS (kQ (kb (kR (sR (d_iaS U ((H.gat hG).rd (i:=3) (s:=3) (q:=2) U) U U (q:=1) (by omega) (by decide) tu109 ts106) (sR (d_ldmR (q:=1) U ((H.gat hG).rd (i:=3) (s:=3) (q:=2) U) U ta106 ts106 (by decide) (by decide)) (sf (eal [.int .u8 0,.int .i64 0,.int .u64 0] tz106 H ?_)))))))
 clear H;intro g7_2 W H
 refine sf (e_sto (wn U) U U U U U ts106 U H U ?_)
 clear H;intro W H
 refine lkR (sMi U (sFa U tf106_2 (sR (d_ld U H U ta104 U) (sR (d_ge U U U) (ln (kT U (by first|(simp;done)|(simp;omega)) ?_))))))
 refine kr (sR (d_ldm U H U ta106 ts106 U) ?_)
 refine sf (e_sto (wn U) U U U U U ts106 U H U ?_)
 clear H;intro W H
 refine ln (kn (zE (kr (sAd U U (by omega) (sMi U (ln (kn (kY (hd_of (ko ?_))))))))))
 refine kR (sLt U U (ln (kQ (kF U (by first|(simp;done)|(simp;omega)) ?_))))
 refine ke (xt (xt ?_))
 refine xH (kR (sMs U (sFa U tf106_0 (sR (d_ld U H U ta5 U) (sf (ebs (xs:=[.tmp 39]) (vals:=[.int .u8 _]) (vs:=[.int .u8 _]) U U U U tu41 ts5 ty5 U U U H ?_))))))
 clear H;intro g11_3 W H
 refine sf (eN Tryz.func80 U U (behind _ (H.bs hb0) (Bs.mk (l:=[255]) (rd_blk H.blk U) (by omega) (by omega)) (by simp;omega)) H ?_)
 clear H;intro A1 c1 W hc1 hd1 H
 refine sAs U (ln (kQ (kR (sFa U tf106_1 (sR (d_ld U H U ta3 U) (sMi U (ln ?_)))))))
 replace H:=H.sub (L':=[_]) (.cons_cons _ (List.nil_sublist _))
 refine kb (kL 44 [9,10] (fun mm sl W=>∃k:Nat,∃B:Option Addr,∃d:Nat,8 - k=mm∧sl=[(44,.int .i64 (k:Int)),(9,.slice B (b.length+1+k) d)]∧(k<=8)∧(b.length+1+k<=d∧d<=9223372036854775807)∧St nT w W [Fact.row 5 1 (.slice B (b.length+1+k) d) (b.length+1+k) ((b++255::Pk.le u k).map u8v)]) _ _ ⟨0,A1,c1,U,U,by omega,⟨by simpa using hc1,hd1⟩,by simpa [Pk.le] using H⟩ ⟨U,sl_eq (by simp),trivial⟩ (fun mm sl ρv W hJ=>?_))
 clear H;obtain ⟨k,B,d,rfl,rfl,hk,hd,H⟩:=hJ
 refine ko (kR (sLt U U (ln (kQ (kC U (fun hc45=>?_) (fun hc45=>?_))))))
 ·first|(replace hc45:=of_decide_eq_true hc45)|simp at hc45
  refine kS (kQ (kb (kR (sMi U (sAi U (ln (kr (sMs U (sMi U (sMi U (sR (d_mul U U U (by omega)) (sR (d_shr U U U (m:=8*k) U (by show 8*k<=64;omega)) ?_))))))))))))
  refine sR (d_conv U U (by rw [tu104];rfl) tu5 (u8_eq (shr_le u k))) ?_
  refine sf (ebs (xs:=[.tmp 52]) (vals:=[.int .u8 _]) (vs:=[.int .u8 _]) U U U U tu41 ts5 ty5 U U U H ?_)
  clear H;intro g15_6 W H
  refine sf (eap tu41 tx5 U U U H (rd_blk H.blk U) (U) (by omega) U ?_)
  clear H;intro A2 c2 W hc2 hd2 H
  replace H:=H.drop
  refine sAs U (ln (kn (zE (kr (sAd U U (by omega) (sMi U (ln (kn (kY ?_)))))))))
  refine ⟨_,_,_,?_,U,?_,?_,⟨k+1,A2,c2,U,U,by omega,⟨by omega,hd2⟩,by rw [Pk.le_succ,←List.cons_append,map_snoc];exact H⟩⟩
  ·omega
  ·with_reducible repeat first|exact .refl|refine .f ?_ ?_ ?_;kernel_rfl;kernel_rfl|refine .u ?_ ?_;kernel_rfl
  ·refine ⟨?_,?_,trivial⟩
   ·exact vi (by omega)
   ·exact U
 ·first|(replace hc45:=of_decide_eq_false hc45)|simp at hc45
  refine ke (xt (xt ?_))
  refine xH (kQ ?_)
  obtain rfl:k=8:=by omega
  refine kr (sMs U (sAs U (ln (kx ?_))))
  exact qr (v:=.slice _ _ _) U U ⟨_,U,H.newB (by rw [Pk.int_8 hu];simp [Pk.len_le]) (by rw [Pk.int_8 hu]) hd.1 hd.2⟩

theorem packInt {S:Nat->Prop} {v:Value} {b:List UInt8} (n:Int) (w:World) (hG:Gat w 0 formsC) (hb:Bs w S v b) (hn : -9223372036854775808<=n∧n<=9223372036854775807) (hl:b.length<=500000000000) :
  Calls Tryz.prog 37 [v,.int .i64 n].toArray w (Ret (NewB 5 w (b++Pk.int (Pk.toU n)))):=by
 rcases Nat.lt_or_ge (Pk.toU n) 253 with h|h
 ·exact packInt1 n w hG hb hn hl h
 rcases Nat.lt_or_ge (Pk.toU n) 65536 with h2|h2
 ·exact packInt2 n w hG hb hl ⟨h,h2⟩
 rcases Nat.lt_or_ge (Pk.toU n) 4294967296 with h4|h4
 ·exact packInt4 n w hG hb hl ⟨h2,h4⟩
 ·exact packInt8 n w hG hb hl h4

theorem packBlob {S S1:Nat->Prop} {v u:Value} {b p:List UInt8} (w:World) (hG:Gat w 0 formsC) (hb:Bs w S v b) (hl:b.length<=400000000000) (hp:Bs w S1 u p) (hl2:p.length<=400000000000) :
  Calls Tryz.prog 42 [v,u].toArray w (Ret (NewB 5 w (b++(Pk.int p.length++p)))):=by
 have hb0:=hb
 obtain ⟨A,c,rfl,_,_,hb⟩:=hb.op
 have hp0:=hp
 obtain ⟨B,d,rfl,_,_,hp⟩:=hp.op
 have hi:=Pk.len_int p.length
 refine kE (l:=[_,_]) Tryz.func42 U U ?_
 have H:=St.start nT w
 refine kR (sAs U (lkR (sMs U (sMs U (sLn U tu41 (sf (ecl Tryz.func37 U U (packInt _ _ (H.gat hG) (H.bs hb0) (by omega) (by omega)) ?_)))))))
 rw [Pk.toU_pos _ (by omega) (by omega),Int.toNat_natCast]
 rintro _ W ⟨A1,c1,rfl,hc1,hd1,hn⟩
 replace H:=H.new hn
 clear hn
 refine sMs U (sf (eap tu41 tx5 U U U H (H.rd hp) (all_u8L _) (by rw [List.length_append];omega) U ?_))
 clear H;intro A2 c2 W hc2 hd2 H
 refine sAs U (ln (kx ?_))
 exact qr (v:=.slice _ _ _) U U ⟨_,U,H.newB (by simp;omega) (by simp) hc2 hd2⟩

theorem packHash {S:Nat->Prop} {v:Value} {b h:List UInt8} (w:World) (hb:Bs w S v b) (hl:b.length<=400000000000) (hh:h.length=32) :
  Calls Tryz.prog 83 [v,.agg (h.map u8v).toArray].toArray w (Ret (NewB 5 w (b++h))):=by
 have hb0:=hb
 obtain ⟨A,c,rfl,_,_,hb⟩:=hb.op
 refine kE (l:=[_,_]) Tryz.func83 U U ?_
 have H:=St.start nT w
 refine kR (sf (ebx U U H ?_))
 clear H;intro g0_0 W H
 refine sAs U (lkR (sMs U (sR (d_arrA U U tu24 ts5) (sf (eN Tryz.func80 U U (behind _ (H.bs hb0) (Bs.mk (l:=h) (rd_blk H.blk (by simp;omega)) (by omega) (by omega)) (by omega)) H ?_)))))
 clear H;intro A1 c1 W hc1 hd1 H
 refine sAs U (ln (kx ?_))
 exact qr (v:=.slice _ _ _) U U ⟨_,U,H.newB U U hc1 hd1⟩

theorem refLow (n:Int) (m:Nat) (z:Int) (w:World) (hz:z=(m:Int)) (hm:m<=8) :
  Calls Tryz.prog 88 [.int .i64 n,.int .i64 z].toArray w (Ret (NewB 5 w (Pk.le (Pk.toU n) m))):=by
 subst hz
 have hc:=u64_wrap n
 have hlt:=Pk.toU_lt n
 generalize Pk.toU n=u at *
 refine kE (l:=[_,_]) Tryz.func88 U U ?_
 have H:=St.start nT w
 refine kR (sAs U (lkR (sMi U (sR (d_conv U U (by rw [tu3];rfl) tu104 hc) ?_))))
 refine sAi U (lkR (sAs U (ln ?_)))
 replace H:=H.nilrow 5 1
 refine kQ (kR (sAi U (ln (kb (kL 10 [5,6,7] (fun mm sl W=>∃k:Nat,∃B:Option Addr,∃d:Nat,m - k=mm∧sl=[(7,.int .i64 (k:Int)),(6,.slice B k d),(5,.int .u64 ((u / 256 ^ k:Nat):Int))]∧(k<=m)∧(k<=d∧d<=9223372036854775807)∧St nT w W [Fact.row 5 1 (.slice B k d) k ((Pk.le u k).map u8v)]) _ _ ⟨0,none,0,U,U,Nat.zero_le _,⟨Nat.le_refl _,by omega⟩,H⟩ ⟨U,U,vi (by simp),trivial⟩ (fun mm sl ρv W hJ=>?_))))))
 clear H;obtain ⟨k,B,d,rfl,rfl,hk,hd,H⟩:=hJ
 refine ko (kQ (kR (sMi U (sMi U (sLt U U (ln (kC U (fun hc12=>?_) (fun hc12=>?_))))))))
 ·first|(replace hc12:=of_decide_eq_true hc12)|simp at hc12
  refine kS (kQ (kb (kR (sMs U (sMi U (sR (d_remU U U U ⟨Int.natCast_nonneg _,by decide⟩) ?_))))))
  refine sR (d_conv U U (by rw [tu104];rfl) tu5 (u8_eq2 _)) ?_
  refine sf (ebs (xs:=[.tmp 18]) (vals:=[.int .u8 _]) (vs:=[.int .u8 _]) U U U U tu41 ts5 ty5 U U U H ?_)
  clear H;intro g6_4 W H
  refine sf (eap tu41 tx5 U U U H (rd_blk H.blk U) (U) (by omega) U ?_)
  clear H;intro A1 c1 W hc1 hd1 H
  replace H:=H.drop
  refine sAs U (ln (kr (sMi U (sR (d_quo U U U ⟨Int.natCast_nonneg _,by decide⟩ (u64_div u k hlt)) ?_))))
  refine sAi U (ln (kn (zE (kI U U U (by omega) U (kn (kY ?_))))))
  refine ⟨_,_,_,?_,U,?_,?_,⟨k+1,A1,c1,U,U,by omega,⟨hc1,hd1⟩,by rw [Pk.le_succ,List.map_append];exact H⟩⟩
  ·omega
  ·with_reducible repeat first|exact .refl|refine .f ?_ ?_ ?_;kernel_rfl;kernel_rfl|refine .u ?_ ?_;kernel_rfl
  ·refine ⟨?_,?_,?_,trivial⟩
   ·exact vi (by omega)
   ·exact U
   ·exact U
 ·first|(replace hc12:=of_decide_eq_false hc12)|simp at hc12
  refine ke (xt (xt ?_))
  refine xH (kQ ?_)
  obtain rfl:k=m:=by omega
  refine kr (sMs U (sAs U (ln (kx ?_))))
  exact qr (v:=.slice _ _ _) U U ⟨_,U,H.newB (by rw [Pk.len_le]) U hd.1 hd.2⟩

theorem refInt1 {S:Nat->Prop} {v:Value} {b:List UInt8} (n:Int) (w:World) (hb:Bs w S v b) (hn : -9223372036854775808<=n∧n<=9223372036854775807) (hl:b.length<=500000000000) (hu:0<=n∧n<253) :
  Calls Tryz.prog 45 [v,.int .i64 n].toArray w (Ret (NewB 5 w (b++Pk.int (Pk.toU n)))):=by
 have hcast:=Pk.toU_cast n
 have hb0:=hb
 obtain ⟨A,c,rfl,_,_,_⟩:=hb.op
 refine kE (l:=[_,_]) Tryz.func45 U U ?_
 have H:=St.start nT w
 refine kR (sAs U (lkR (sMs U (sf (eN Tryz.func13 U U (copyBytes _ b _ (H.bs hb0) (by omega)) H ?_)))))
 clear H;intro A0 c0 W hc0 hd0 H
 refine sAs U (ln (kQ (kR (sMi U (sR (d_ge U U U) (sBt U ((by first|(simp;done)|(simp;omega))) ?_))))))
 refine sr (w_g U U U U) U (mv_i U U) (sr (w_g U U U U) U (d_lt U U U) (sPT U U (ln (kT U (by first|(simp;done)|(simp;omega)) ?_))))
 refine kR (sMs U (sMi U (sR (d_conv U U (by rw [tu3];rfl) tu5 (u8_eq (n:=Pk.toU n) (by omega))) ?_)))
 refine sf (ebs (xs:=[.tmp 16]) (vals:=[.int .u8 _]) (vs:=[.int .u8 _]) U U U U tu41 ts5 ty5 U U U H ?_)
 clear H;intro g3_3 W H
 refine sf (eap tu41 tx5 U U U H (rd_blk H.blk U) (U) (by omega) U ?_)
 clear H;intro A1 c1 W hc1 hd1 H
 replace H:=H.drop
 refine sAs U (ln (kx ?_))
 exact qr (v:=.slice _ _ _) U U ⟨_,U,H.newB (by rw [Pk.int_1 (by omega)];simp) (by rw [Pk.int_1 (by omega)];simp) hc1 hd1⟩

theorem refInt2 {S:Nat->Prop} {v:Value} {b:List UInt8} (n:Int) (w:World) (hb:Bs w S v b) (hn : -9223372036854775808<=n∧n<=9223372036854775807) (hl:b.length<=500000000000) (hu:253<=n∧n<65536) :
  Calls Tryz.prog 45 [v,.int .i64 n].toArray w (Ret (NewB 5 w (b++Pk.int (Pk.toU n)))):=by
 have hcast:=Pk.toU_cast n
 have hb0:=hb
 obtain ⟨A,c,rfl,_,_,_⟩:=hb.op
 refine kE (l:=[_,_]) Tryz.func45 U U ?_
 have H:=St.start nT w
 refine kR (sAs U (lkR (sMs U (sf (eN Tryz.func13 U U (copyBytes _ b _ (H.bs hb0) (by omega)) H ?_)))))
 clear H;intro A0 c0 W hc0 hd0 H
 refine sAs U (ln (kQ (kR (sMi U (sR (d_ge U U U) (sBt U ((by first|(simp;done)|(simp;omega))) ?_))))))
 refine sr (w_g U U U U) U (mv_i U U) (sr (w_g U U U U) U (d_lt U U U) (sPT U U (ln (kF U (by first|(simp;done)|(simp;omega)) ?_))))
 refine kS (kQ (kR (sMi U (sR (d_ge U U U) (sBt U ((by first|(simp;done)|(simp;omega))) ?_)))))
 refine sr (w_g U U U U) U (mv_i U U) (sr (w_g U U U U) U (d_lt U U U) (sPT U U (ln (kT U (by first|(simp;done)|(simp;omega)) ?_))))
 refine kR (sMs U (sf (ebs (xs:=[.const (.int .u8 253)]) (vals:=[.int .u8 _]) (vs:=[.int .u8 _]) U U U U tu41 ts5 ty5 U U U H ?_)))
 clear H;intro g5_1 W H
 refine sf (eap tu41 tx5 U U U H (rd_blk H.blk U) (U) (by omega) U ?_)
 clear H;intro A1 c1 W hc1 hd1 H
 replace H:=H.drop
 refine sMi U (sf (eN Tryz.func88 U U (refLow n 2 _ _ U (by omega)) H ?_))
 clear H;intro A2 c2 W hc2 hd2 H
 refine sf (eap tu41 tx5 U U U H (H.rowrd (A:=A2)) (all_u8L _) (by simp [Pk.len_le];omega) U ?_)
 clear H;intro A3 c3 W hc3 hd3 H
 refine sAs U (ln (kx ?_))
 exact qr (v:=.slice _ _ _) U U ⟨_,U,H.newB (by rw [Pk.int_2 (by omega) (by omega)];simp [Pk.len_le]) (by rw [Pk.int_2 (by omega) (by omega)];simp) hc3 hd3⟩

theorem refInt4 {S:Nat->Prop} {v:Value} {b:List UInt8} (n:Int) (w:World) (hb:Bs w S v b) (hn : -9223372036854775808<=n∧n<=9223372036854775807) (hl:b.length<=500000000000) (hu:65536<=n∧n<4294967296) :
  Calls Tryz.prog 45 [v,.int .i64 n].toArray w (Ret (NewB 5 w (b++Pk.int (Pk.toU n)))):=by
 have hcast:=Pk.toU_cast n
 have hb0:=hb
 obtain ⟨A,c,rfl,_,_,_⟩:=hb.op
 refine kE (l:=[_,_]) Tryz.func45 U U ?_
 have H:=St.start nT w
 refine kR (sAs U (lkR (sMs U (sf (eN Tryz.func13 U U (copyBytes _ b _ (H.bs hb0) (by omega)) H ?_)))))
 clear H;intro A0 c0 W hc0 hd0 H
 refine sAs U (ln (kQ (kR (sMi U (sR (d_ge U U U) (sBt U ((by first|(simp;done)|(simp;omega))) ?_))))))
 refine sr (w_g U U U U) U (mv_i U U) (sr (w_g U U U U) U (d_lt U U U) (sPT U U (ln (kF U (by first|(simp;done)|(simp;omega)) ?_))))
 refine kS (kQ (kR (sMi U (sR (d_ge U U U) (sBt U ((by first|(simp;done)|(simp;omega))) ?_)))))
 refine sr (w_g U U U U) U (mv_i U U) (sr (w_g U U U U) U (d_lt U U U) (sPT U U (ln (kF U (by first|(simp;done)|(simp;omega)) ?_))))
 refine kS (kQ (kR (sMi U (sR (d_ge U U U) (sBt U ((by first|(simp;done)|(simp;omega))) ?_)))))
 refine sr (w_g U U U U) U (mv_i U U) (sr (w_g U U U U) U (d_lt U U U) (sPT U U (ln (kT U (by first|(simp;done)|(simp;omega)) ?_))))
 refine kR (sMs U (sf (ebs (xs:=[.const (.int .u8 254)]) (vals:=[.int .u8 _]) (vs:=[.int .u8 _]) U U U U tu41 ts5 ty5 U U U H ?_)))
 clear H;intro g7_1 W H
 refine sf (eap tu41 tx5 U U U H (rd_blk H.blk U) (U) (by omega) U ?_)
 clear H;intro A1 c1 W hc1 hd1 H
 replace H:=H.drop
 refine sMi U (sf (eN Tryz.func88 U U (refLow n 4 _ _ U (by omega)) H ?_))
 clear H;intro A2 c2 W hc2 hd2 H
 refine sf (eap tu41 tx5 U U U H (H.rowrd (A:=A2)) (all_u8L _) (by simp [Pk.len_le];omega) U ?_)
 clear H;intro A3 c3 W hc3 hd3 H
 refine sAs U (ln (kx ?_))
 exact qr (v:=.slice _ _ _) U U ⟨_,U,H.newB (by rw [Pk.int_4 (by omega) (by omega)];simp [Pk.len_le]) (by rw [Pk.int_4 (by omega) (by omega)];simp) hc3 hd3⟩

theorem refInt8 {S:Nat->Prop} {v:Value} {b:List UInt8} (n:Int) (w:World) (hb:Bs w S v b) (hn : -9223372036854775808<=n∧n<=9223372036854775807) (hl:b.length<=500000000000) (hu:4294967296<=n) :
  Calls Tryz.prog 45 [v,.int .i64 n].toArray w (Ret (NewB 5 w (b++Pk.int (Pk.toU n)))):=by
 have hcast:=Pk.toU_cast n
 have hb0:=hb
 obtain ⟨A,c,rfl,_,_,_⟩:=hb.op
 refine kE (l:=[_,_]) Tryz.func45 U U ?_
 have H:=St.start nT w
 refine kR (sAs U (lkR (sMs U (sf (eN Tryz.func13 U U (copyBytes _ b _ (H.bs hb0) (by omega)) H ?_)))))
 clear H;intro A0 c0 W hc0 hd0 H
 refine sAs U (ln (kQ (kR (sMi U (sR (d_ge U U U) (sBt U ((by first|(simp;done)|(simp;omega))) ?_))))))
 refine sr (w_g U U U U) U (mv_i U U) (sr (w_g U U U U) U (d_lt U U U) (sPT U U (ln (kF U (by first|(simp;done)|(simp;omega)) ?_))))
 refine kS (kQ (kR (sMi U (sR (d_ge U U U) (sBt U ((by first|(simp;done)|(simp;omega))) ?_)))))
 refine sr (w_g U U U U) U (mv_i U U) (sr (w_g U U U U) U (d_lt U U U) (sPT U U (ln (kF U (by first|(simp;done)|(simp;omega)) ?_))))
 refine kS (kQ (kR (sMi U (sR (d_ge U U U) (sBt U ((by first|(simp;done)|(simp;omega))) ?_)))))
 refine sr (w_g U U U U) U (mv_i U U) (sr (w_g U U U U) U (d_lt U U U) (sPT U U (ln (kF U (by first|(simp;done)|(simp;omega)) ?_))))
 refine kS (kR (sMs U (sf (ebs (xs:=[.const (.int .u8 255)]) (vals:=[.int .u8 _]) (vs:=[.int .u8 _]) U U U U tu41 ts5 ty5 U U U H ?_))))
 clear H;intro g8_1 W H
 refine sf (eap tu41 tx5 U U U H (rd_blk H.blk U) (U) (by omega) U ?_)
 clear H;intro A1 c1 W hc1 hd1 H
 replace H:=H.drop
 refine sMi U (sf (eN Tryz.func88 U U (refLow n 8 _ _ U (by omega)) H ?_))
 clear H;intro A2 c2 W hc2 hd2 H
 refine sf (eap tu41 tx5 U U U H (H.rowrd (A:=A2)) (all_u8L _) (by simp [Pk.len_le];omega) U ?_)
 clear H;intro A3 c3 W hc3 hd3 H
 refine sAs U (ln (kx ?_))
 exact qr (v:=.slice _ _ _) U U ⟨_,U,H.newB (by rw [Pk.int_8 (by omega)];simp [Pk.len_le]) (by rw [Pk.int_8 (by omega)];simp) hc3 hd3⟩

theorem refIntN {S:Nat->Prop} {v:Value} {b:List UInt8} (n:Int) (w:World) (hb:Bs w S v b) (hn : -9223372036854775808<=n∧n<=9223372036854775807) (hl:b.length<=500000000000) (hu:n<0) :
  Calls Tryz.prog 45 [v,.int .i64 n].toArray w (Ret (NewB 5 w (b++Pk.int (Pk.toU n)))):=by
 have hcast:=Pk.toU_cast n
 have hb0:=hb
 obtain ⟨A,c,rfl,_,_,_⟩:=hb.op
 refine kE (l:=[_,_]) Tryz.func45 U U ?_
 have H:=St.start nT w
 refine kR (sAs U (lkR (sMs U (sf (eN Tryz.func13 U U (copyBytes _ b _ (H.bs hb0) (by omega)) H ?_)))))
 clear H;intro A0 c0 W hc0 hd0 H
 refine sAs U (ln (kQ (kR (sMi U (sR (d_ge U U U) (sBf U ((by first|(simp;done)|(simp;omega))) ?_))))))
 refine sK (wO U U U U U) U (sK (wO U U U U U) U (sPF U U (ln (kF U (by first|(simp;done)|(simp;omega)) ?_))))
 refine kS (kQ (kR (sMi U (sR (d_ge U U U) (sBf U ((by first|(simp;done)|(simp;omega))) ?_)))))
 refine sK (wO U U U U U) U (sK (wO U U U U U) U (sPF U U (ln (kF U (by first|(simp;done)|(simp;omega)) ?_))))
 refine kS (kQ (kR (sMi U (sR (d_ge U U U) (sBf U ((by first|(simp;done)|(simp;omega))) ?_)))))
 refine sK (wO U U U U U) U (sK (wO U U U U U) U (sPF U U (ln (kF U (by first|(simp;done)|(simp;omega)) ?_))))
 refine kS (kR (sMs U (sf (ebs (xs:=[.const (.int .u8 255)]) (vals:=[.int .u8 _]) (vs:=[.int .u8 _]) U U U U tu41 ts5 ty5 U U U H ?_))))
 clear H;intro g8_1 W H
 refine sf (eap tu41 tx5 U U U H (rd_blk H.blk U) (U) (by omega) U ?_)
 clear H;intro A1 c1 W hc1 hd1 H
 replace H:=H.drop
 refine sMi U (sf (eN Tryz.func88 U U (refLow n 8 _ _ U (by omega)) H ?_))
 clear H;intro A2 c2 W hc2 hd2 H
 refine sf (eap tu41 tx5 U U U H (H.rowrd (A:=A2)) (all_u8L _) (by simp [Pk.len_le];omega) U ?_)
 clear H;intro A3 c3 W hc3 hd3 H
 refine sAs U (ln (kx ?_))
 exact qr (v:=.slice _ _ _) U U ⟨_,U,H.newB (by rw [Pk.int_8 (by omega)];simp [Pk.len_le]) (by rw [Pk.int_8 (by omega)];simp) hc3 hd3⟩

theorem refInt {S:Nat->Prop} {v:Value} {b:List UInt8} (n:Int) (w:World) (hb:Bs w S v b) (hn : -9223372036854775808<=n∧n<=9223372036854775807) (hl:b.length<=500000000000) :
  Calls Tryz.prog 45 [v,.int .i64 n].toArray w (Ret (NewB 5 w (b++Pk.int (Pk.toU n)))):=by
 rcases Int.lt_or_le n 0 with h|h
 ·exact refIntN n w hb hn hl h
 rcases Int.lt_or_le n 253 with h1|h1
 ·exact refInt1 n w hb hn hl ⟨h,h1⟩
 rcases Int.lt_or_le n 65536 with h2|h2
 ·exact refInt2 n w hb hn hl ⟨h1,h2⟩
 rcases Int.lt_or_le n 4294967296 with h4|h4
 ·exact refInt4 n w hb hn hl ⟨h2,h4⟩
 ·exact refInt8 n w hb hn hl h4

theorem refBlob {S S1:Nat->Prop} {v u:Value} {b p:List UInt8} (w:World) (hb:Bs w S v b) (hl:b.length<=400000000000) (hp:Bs w S1 u p) (hl2:p.length<=400000000000) :
  Calls Tryz.prog 48 [v,u].toArray w (Ret (NewB 5 w (b++(Pk.int p.length++p)))):=by
 have hb0:=hb
 obtain ⟨A,c,rfl,_,_,hb⟩:=hb.op
 have hp0:=hp
 obtain ⟨B,d,rfl,_,_,hp⟩:=hp.op
 have hi:=Pk.len_int p.length
 refine kE (l:=[_,_]) Tryz.func48 U U ?_
 have H:=St.start nT w
 refine kR (sAs U (lkR (sMs U (sMs U (sLn U tu41 (sf (ecl Tryz.func45 U U (refInt _ _ (H.bs hb0) (by omega) (by omega)) ?_)))))))
 rw [Pk.toU_pos _ (by omega) (by omega),Int.toNat_natCast]
 rintro _ W ⟨A1,c1,rfl,hc1,hd1,hn⟩
 replace H:=H.new hn
 clear hn
 refine sMs U (sf (eap tu41 tx5 U U U H (H.rd hp) (all_u8L _) (by rw [List.length_append];omega) U ?_))
 clear H;intro A2 c2 W hc2 hd2 H
 refine sAs U (ln (kx ?_))
 exact qr (v:=.slice _ _ _) U U ⟨_,U,H.newB (by simp;omega) (by simp) hc2 hd2⟩

theorem refHash {S:Nat->Prop} {v:Value} {b h:List UInt8} (w:World) (hb:Bs w S v b) (hl:b.length<=400000000000) (hh:h.length=32) :
  Calls Tryz.prog 89 [v,.agg (h.map u8v).toArray].toArray w (Ret (NewB 5 w (b++h))):=by
 have hb0:=hb
 obtain ⟨A,c,rfl,_,_,hb⟩:=hb.op
 refine kE (l:=[_,_]) Tryz.func89 U U ?_
 have H:=St.start nT w
 refine kR (sf (ebx U U H ?_))
 clear H;intro g0_0 W H
 refine sAs U (ln (kQ (k_draw [(0,true),(2,true),(1,false),(3,false),(4,true)] _ (by kernel_rfl) (by kernel_rfl) H (.refl _) ?_)))
 clear H;intro W H
 refine cMs U U (cR U (fun W H=>d_arrA U U tu24 ts5) (cf U (eN Tryz.func13 U U (copyBytes _ b _ (H.bs hb0) (by omega)) H ?_)))
 clear H;intro A1 c1 W hc1 hd1 H
 refine ⟨H.sb,?_⟩
 refine cf U (eap tu41 tx5 U U U H (rd_blk H.blk (by simp;omega)) (all_u8L _) (by omega) U ?_)
 clear H;intro A2 c2 W hc2 hd2 H
 refine ⟨H.sb,?_⟩
 refine cAs U U (c_nil (kx ?_))
 exact qr (v:=.slice _ _ _) U U ⟨_,U,H.newB (by simp;omega) (by simp) hc2 hd2⟩

end Go.Proofs.YtfhhfhdnhadooaaGreatDoor
