/-
  A part of the proof: the machine, the contracts of the functions and the plain laws, merged from smaller texts.
-/
import Derived.Test.YtehlcdinedflkaaGreatDoorRs2
set_option linter.unusedVariables false
set_option linter.unusedSimpArgs false
set_option linter.unusedSectionVars false
section
set_option maxRecDepth 20000
namespace Go.Eng
open Go Go.Proofs Go.IntWalk
theorem shows_new {h:Heap} {N a kb off len cap:Nat} {b:Option Blk} (hk:kb < N):shows ((N+a,b) :: h) (.slice (some ⟨kb,off,none⟩) len cap)=shows h (.slice (some ⟨kb,off,none⟩) len cap):=by
 simp only [shows,hget,if_neg (show ¬ N+a=kb by omega)]
def spLong:List Value -> Heap -> Option ((Nat -> Nat -> Value) × Blk × Blk)
 | [vu,vd],h=>match shows h vu,shows h vd with
  | some us,some ds=>if uok us=true /\ uok ds=true /\ 2 <= ds.length /\ ds.length <= us.length /\ us.length <= 8589934592 /\ 4294967296 ^ (ds.length - 1) <= ud ds then
    some (fun a b => .tuple ⟨[.slice (some ⟨a,0,none⟩) (us.length+1 - ds.length) (us.length+1 - ds.length),.slice (some ⟨b,0,none⟩) ds.length ds.length]⟩,
     ⟨122,1,false,tb (us.length+1 - ds.length) (lm (ud us / ud ds))⟩,⟨122,1,false,tb ds.length (lm (ud us % ud ds))⟩) else none
  | _,_=>none
 | _,_=>none
def c128:ICode:=
 (.seq (.reg [qq 4 (.mv (.c (.slice none 0 0))),qq 5 (.mv (.c (.slice none 0 0)))]) (.seq (.reg [qq 15 (.mv (.t 1)),qq 16 (.mv (.t 1)),qq 17 (.lensl (.t 16)),qq 18 (.bin .sub (.t 17) (ci 1)),qq 19 (.ixsl 1 (.t 15) (.t 18)),qq 20 (.load false 1 (.t 19)),qq 21 (.call 135 [(.t 20)]),qq 6 (.mv (.t 21))]) (.seq (.reg [qq 22 (.mv (.t 1)),qq 23 (.mv (.t 6)),qq 24 (.call 136 [(.t 22),(.t 23)]),qq 25 (.mv (.t 1)),qq 26 (.lensl (.t 25)),qq 27 (.slsl 1 (.t 24) none (some (.t 26))),qq 1 (.mv (.t 27))]) (.seq (.reg [qq 28 (.mv (.t 0)),qq 29 (.mv (.t 6)),qq 30 (.call 136 [(.t 28),(.t 29)]),qq 0 (.mv (.t 30))]) (.seq (.reg [qq 31 (.mv (.t 1)),qq 32 (.lensl (.t 31)),qq 7 (.mv (.t 32))]) (.seq (.reg [qq 33 (.mv (.t 1)),qq 34 (.mv (.t 7)),qq 35 (.bin .sub (.t 34) (ci 1)),qq 36 (.ixsl 1 (.t 33) (.t 35)),qq 37 (.load false 1 (.t 36)),qq 8 (.mv (.t 37))]) (.seq (.reg [qq 38 (.mv (.t 0)),qq 39 (.lensl (.t 38)),qq 40 (.mv (.t 7)),qq 41 (.bin .sub (.t 39) (.t 40)),qq 42 (.mxmn true (.t 41) (ci 0)),qq 43 (.mkslice 122 1 4 [(.int .u32 0)] (.t 42) (.t 42)),qq 9 (.mv (.t 43))]) (.seq (.seq (.reg [qq 44 (.mv (.t 9)),qq 45 (.lensl (.t 44)),qq 46 (.mv (ci 0))]) (.block 0 (.loop (.seq (.reg [qq 47 (.bin .lss (.t 46) (.t 45))]) (.seq (.cond (.t 47) .skip (.exit 0)) (.seq (.block 1 (.seq (.reg [qq 48 (.mv (.t 46)),qq 10 (.mv (.t 48))]) (.seq (.reg [qq 49 (.mv (.t 9)),qq 50 (.lensl (.t 49)),qq 51 (.bin .sub (.t 50) (ci 1)),qq 52 (.mv (.t 10)),qq 53 (.bin .sub (.t 51) (.t 52)),qq 11 (.mv (.t 53))]) (.seq (.dreg [qu 54 (.mv (.t 0)),qu 55 (.mv (.t 11)),qu 56 (.mv (.t 7)),qu 57 (.bin .add (.t 55) (.t 56)),qu 58 (.ixsl 1 (.t 54) (.t 57)),qu 59 (.load false 1 (.t 58)),qu 60 (.conv .u64 (.t 59)),qu 61 (.bin .shl (.t 60) (.c (.int .u64 32))),qu 62 (.mv (.t 0)),qu 63 (.mv (.t 11)),qu 64 (.mv (.t 7)),qu 65 (.bin .add (.t 63) (.t 64)),qu 66 (.bin .sub (.t 65) (ci 1)),qu 67 (.ixsl 1 (.t 62) (.t 66)),qu 68 (.load false 1 (.t 67)),qu 69 (.conv .u64 (.t 68)),qu 70 (.bin .or (.t 61) (.t 69)),qu 12 (.mv (.t 70))]) (.seq (.dreg [qu 71 (.mv (.t 12)),qu 72 (.mv (.t 8)),qu 73 (.conv .u64 (.t 72)),qu 74 (.bin .quo (.t 71) (.t 73)),qu 75 (.mv (.t 12)),qu 76 (.mv (.t 8)),qu 77 (.conv .u64 (.t 76)),qu 78 (.bin .rem (.t 75) (.t 77)),qu 13 (.mv (.t 74)),qu 14 (.mv (.t 78))]) (.seq (.block 2 (.loop (.seq (.seq (.dreg [qu 79 (.mv (.t 13)),qu 80 (.bin .gtr (.t 79) (.c (.int .u64 4294967295))),qu 81 (.mv (.t 80)),⟨(some 82),(some (81,false)),[],(.mv (.t 13))⟩,⟨(some 83),(some (81,false)),[],(.mv (.t 1))⟩,⟨(some 84),(some (81,false)),[],(.mv (.t 7))⟩,⟨(some 85),(some (81,false)),[],(.bin .sub (.t 84) (ci 2))⟩,⟨(some 86),(some (81,false)),[],(.ixsl 1 (.t 83) (.t 85))⟩,⟨(some 87),(some (81,false)),[],(.load false 1 (.t 86))⟩,⟨(some 88),(some (81,false)),[],(.conv .u64 (.t 87))⟩,⟨(some 89),(some (81,false)),[],(.bin .mul (.t 82) (.t 88))⟩,⟨(some 90),(some (81,false)),[],(.mv (.t 14))⟩,⟨(some 91),(some (81,false)),[],(.bin .shl (.t 90) (.c (.int .u64 32)))⟩,⟨(some 92),(some (81,false)),[],(.mv (.t 0))⟩,⟨(some 93),(some (81,false)),[],(.mv (.t 11))⟩,⟨(some 94),(some (81,false)),[],(.mv (.t 7))⟩,⟨(some 95),(some (81,false)),[],(.bin .add (.t 93) (.t 94))⟩,⟨(some 96),(some (81,false)),[],(.bin .sub (.t 95) (ci 2))⟩,⟨(some 97),(some (81,false)),[],(.ixsl 1 (.t 92) (.t 96))⟩,⟨(some 98),(some (81,false)),[],(.load false 1 (.t 97))⟩,⟨(some 99),(some (81,false)),[],(.conv .u64 (.t 98))⟩,⟨(some 100),(some (81,false)),[],(.bin .or (.t 91) (.t 99))⟩,⟨(some 101),(some (81,false)),[],(.bin .gtr (.t 89) (.t 100))⟩,qu 102 (.pick (.t 81) (.c (.bool true)) (.t 101))]) (.cond (.t 102) .skip (.exit 2))) (.block 3 (.seq (.reg [qq 103 (.mv (.t 13)),qq 104 (.bin .sub (.t 103) (.c (.int .u64 1))),qq 105 (.mv (.t 14)),qq 106 (.mv (.t 8)),qq 107 (.conv .u64 (.t 106)),qq 108 (.bin .add (.t 105) (.t 107)),qq 13 (.mv (.t 104)),qq 14 (.mv (.t 108))]) (.seq (.reg [qq 109 (.mv (.t 14)),qq 110 (.bin .gtr (.t 109) (.c (.int .u64 4294967295)))]) (.cond (.t 110) (.exit 2) .skip))))))) (.seq (.seq (.reg [qq 111 (.mv (.t 0)),qq 112 (.mv (.t 11)),qq 113 (.mv (.t 11)),qq 114 (.mv (.t 7)),qq 115 (.bin .add (.t 113) (.t 114)),qq 116 (.bin .add (.t 115) (ci 1)),qq 117 (.slsl 1 (.t 111) (some (.t 112)) (some (.t 116))),qq 118 (.mv (.t 1)),qq 119 (.mv (.t 13)),qq 120 (.conv .u32 (.t 119)),qq 121 (.call 137 [(.t 117),(.t 118),(.t 120)])]) (.cond (.t 121) (.reg [qq 122 (.mv (.t 13)),qq 123 (.bin .sub (.t 122) (.c (.int .u64 1))),qq 13 (.mv (.t 123))]) .skip)) (.reg [qq 124 (.mv (.t 9)),qq 125 (.mv (.t 11)),qq 126 (.mv (.t 13)),qq 127 (.conv .u32 (.t 126)),qq 128 (.ixsl 1 (.t 124) (.t 125)),qn (.store 1 (.t 128) (.t 127))])))))))) (.reg [qq 129 (.bin .add (.t 46) (ci 1)),qq 46 (.mv (.t 129))]))))))) (.seq (.reg [qq 130 (.mv (.t 9)),qq 131 (.mv (.t 0)),qq 132 (.mv (.t 7)),qq 133 (.slsl 1 (.t 131) none (some (.t 132))),qq 134 (.mv (.t 6)),qq 135 (.call 138 [(.t 133),(.t 134)]),qq 4 (.mv (.t 130)),qq 5 (.mv (.t 135))]) .ret)))))))))
theorem tr128:trFun Tryz.prog 128=some ⟨136,[.t 4,.t 5],c128⟩:=by kernel_rfl
theorem lm_lt_int (n j:Nat):((lm n j:Nat):Int) < 4294967296:=by have:=lm_lt n j;omega
theorem vr2_sl (l1 c1 l2 c2:Nat):vr2 fun a b => .tuple ⟨[.slice (some ⟨a,0,none⟩) l1 c1,.slice (some ⟨b,0,none⟩) l2 c2]⟩:=
 fun β i j i' j' h h' => .tup _ _ (.cons _ _ _ _ (.sl i 0 l1 c1 ⟨j,0,[]⟩ h) (.cons _ _ _ _ (.sl i' 0 l2 c2 ⟨j',0,[]⟩ h') .nil))
theorem lz_fits {D p:Nat} (hD:D < 4294967296 ^ (p+2)) (h1:4294967296 ^ (p+1) <= D):32 - l32 (lm D (p+1)) < 32 /\ D * 2 ^ (32 - l32 (lm D (p+1))) < 4294967296 ^ (p+2):=by
 have ht:1 <= lm D (p+1):=by
  rw [lm_top (j:=p+1) hD]
  exact (Nat.le_div_iff_mul_le (pB _)).2 (by rw [Nat.one_mul];exact h1)
 have hlt:=lm_lt D (p+1)
 have hp:=l32_pos (n:=lm D (p+1)) (by omega) hlt
 have hle:=l32_le hlt
 have hl:=l32_lt hlt
 refine ⟨by omega,?_⟩
 have hd:D < (lm D (p+1)+1) * 4294967296 ^ (p+1):=by
  rw [lm_top (j:=p+1) hD,Nat.mul_comm]
  exact Nat.lt_mul_div_succ _ (pB _)
 have h2:(lm D (p+1)+1) * 4294967296 ^ (p+1) <= 2 ^ l32 (lm D (p+1)) * 4294967296 ^ (p+1):=Nat.mul_le_mul_right _ hl
 have h3:D * 2 ^ (32 - l32 (lm D (p+1))) < 2 ^ l32 (lm D (p+1)) * 4294967296 ^ (p+1) * 2 ^ (32 - l32 (lm D (p+1))):=
  Nat.mul_lt_mul_of_pos_right (by omega) (Nat.pow_pos (by omega))
 have e:2 ^ l32 (lm D (p+1)) * 4294967296 ^ (p+1) * 2 ^ (32 - l32 (lm D (p+1)))=4294967296 ^ (p+2):=by
  rw [Nat.mul_right_comm,<- Nat.pow_add,show l32 (lm D (p+1))+(32 - l32 (lm D (p+1)))=32 by omega,show p+2=p+1+1 by omega,Nat.pow_succ 4294967296 (p+1),Nat.mul_comm]
 omega
theorem spLz32_nat {n:Nat} (h:(n:Int) < 4294967296):spLz32 [.int .u32 (n:Nat)]=some (.int .i64 ((32 - l32 n:Nat):Int)):=by
 unfold spLz32
 simp only [Int.toNat_natCast]
 rw [if_pos ⟨Int.natCast_nonneg _,h⟩]
theorem lz_all {U D p lu:Nat} (hU:U < 4294967296 ^ lu) (hD:D < 4294967296 ^ (p+2)) (hD1:4294967296 ^ (p+1) <= D) (hmu:p+2 <= lu) :
  32 - l32 (lm D (p+1)) < 32 /\ D * 2 ^ (32 - l32 (lm D (p+1))) < 4294967296 ^ (p+2) /\ spLz32 [.int .u32 (lm D (p+1):Nat)]=some (.int .i64 ((32 - l32 (lm D (p+1)):Nat):Int)) /\
  LG (U * 2 ^ (32 - l32 (lm D (p+1)))) (D * 2 ^ (32 - l32 (lm D (p+1)))) p (lu+1 - (p+2)) (lu+1) /\
  U * 2 ^ (32 - l32 (lm D (p+1))) / (D * 2 ^ (32 - l32 (lm D (p+1))))=U / D /\
  U * 2 ^ (32 - l32 (lm D (p+1))) % (D * 2 ^ (32 - l32 (lm D (p+1)))) / 2 ^ (32 - l32 (lm D (p+1)))=U % D:=by
 obtain ⟨hs,hDs⟩:=lz_fits hD hD1
 refine ⟨hs,hDs,?_,?_⟩
 ·exact spLz32_nat (lm_lt_int _ _)
 generalize 32 - l32 (lm D (p+1))=s at *
 have h2:0 < 2 ^ s:=Nat.pow_pos (by omega)
 refine ⟨⟨hDs,Nat.le_trans hD1 (Nat.le_mul_of_pos_right _ h2),?_,?_⟩,Nat.mul_div_mul_right _ _ h2,by rw [Nat.mul_mod_mul_right,Nat.mul_div_cancel _ h2]⟩
 ·have h1:U * 2 ^ s < 4294967296 ^ lu * 2 ^ s:=Nat.mul_lt_mul_of_pos_right hU h2
  have h3:4294967296 ^ lu * 2 ^ s=4294967296 ^ (p+1) * 2 ^ s * 4294967296 ^ (lu+1 - (p+2)):=by
   rw [Nat.mul_right_comm,<- Nat.pow_add,show p+1+(lu+1 - (p+2))=lu by omega]
  rw [h3] at h1
  exact Nat.lt_of_lt_of_le h1 (Nat.mul_le_mul_right _ (Nat.mul_le_mul_right _ hD1))
 ·rw [Nat.pow_succ]
  have:2 ^ s <= 2 ^ 32:=Nat.pow_le_pow_right (by omega) (by omega)
  exact Nat.mul_lt_mul_of_lt_of_le hU this (by omega)
theorem bv_or64 {x c:Nat} (hx:x < 4294967296) (hc:c < 4294967296):IntKind.u64.wrap ((BitVec.ofInt IntKind.u64.bits ((c * 2 ^ 32:Nat):Int) ||| BitVec.ofInt IntKind.u64.bits (x:Int)).toNat:Int)=((w2 c x:Nat):Int):=by
 unfold w2
 have h:=or_u64 (x:=x) (c:=c) (s:=32) (by omega) (by omega)
 rw [BitVec.or_comm,h];omega
set_option maxHeartbeats 4000000 in
theorem nlong_wp {h:Heap} {N ku ou lu cu kd od p cd s dtop Uv Dv K:Nat} {blkd:Blk}
  (hbd:hget h kd=some blkd) (hcell1:blkd.cells[od+(p+1)]?=some (.int .u32 (dtop:Nat)))
  (hz:spLz32 [.int .u32 (dtop:Nat)]=some (.int .i64 (s:Nat)))
  (hd:spShift [.slice (some ⟨kd,od,none⟩) (p+2) cd,.int .i64 (s:Nat)] h=some (fun k => .slice (some ⟨k,0,none⟩) (p+2+1) (p+2+1),⟨122,1,false,tb (p+2+1) (lm Dv)⟩))
  (hu:∀ x,spShift [.slice (some ⟨ku,ou,none⟩) lu cu,.int .i64 (s:Nat)] ((N+0,x) :: h)=some (fun k => .slice (some ⟨k,0,none⟩) (lu+1) (lu+1),⟨122,1,false,tb (lu+1) (lm Uv)⟩))
  (hs:s < 32) (g:LG Uv Dv p K (lu+1)) (hK:K+(p+2)=lu+1) (hmu:p+2 <= lu) (hku:lu <= 8589934592) :
  wpI (mkEnv [(135,flat spLz32),(136,nwS spShift),(138,nwS spUnshift),(137,upS spTake)]) c128
   (Fin2 [.t 4,.t 5] (fun a b => .tuple ⟨[.slice (some ⟨a,0,none⟩) K K,.slice (some ⟨b,0,none⟩) (p+2) (p+2)]⟩) ⟨122,1,false,tb K (lm (Uv / Dv))⟩ ⟨122,1,false,tb (p+2) (lm (Uv % Dv / 2 ^ s))⟩ h N)
   ⟨initT [.slice (some ⟨ku,ou,none⟩) lu cu,.slice (some ⟨kd,od,none⟩) (p+2) cd],h,N+0⟩:=by
 have e1:IntKind.i64.wrap (((p+2:Nat):Int) - 1)=((p+1:Nat):Int):=by rw [i64_in _ (by omega)];omega
 have c1:p+1 < p+2:=by omega
 have c2:p+2 <= p+2+1:=by omega
 have c3:p+1 <= p+2:=by omega
 have e7:IntKind.i64.wrap (((lu+1:Nat):Int) - ((p+2:Nat):Int))=(K:Int):=by rw [i64_in _ (by omega)];omega
 have e8:(if (K:Int) < 0 then (0:Int) else (K:Int))=(K:Int):=by rw [if_neg (by omega)]
 have e9:p+2 - 0=p+2:=rfl
 obtain ⟨top,htop⟩:∃ top,lm Dv (p+1)=top:=⟨_,rfl⟩
 have ktop:(tb (p+2+1) (lm Dv))[p+1]?=some (.int .u32 (top:Nat)):=by rw [tb_get' (lm Dv) (show p+1 < p+2+1 by omega),htop]
 have e10:4 * (K:Int) <= 281474976710656:=by omega
 have e11:(K:Int) <= 9223372036854775807:=by omega
 simp only [c128,G0,Nat.reduceAdd]
 simp only [↓R0,R1,simprocAttr,-Int.reduceAbs,e1,c1,c2,c3,hbd,hcell1,hz,nwS,hd,hu,mkSl,e7,e8,Nat.sub_zero,ktop,e9,e10,e11,tb_rep]
 clear hbd hcell1 hz hd hu e1 c3 e7 e8 e9 ktop e10 e11
 refine lp_parts (fun M tm hp nx=>∃ (i:Nat) (f:Nat -> Nat),M+i=K /\ tmget tm 0 = .slice (some ⟨N+1,0,none⟩) (lu+1) (lu+1) /\ tmget tm 1 = .slice (some ⟨N+0,0,none⟩) (p+2) (p+2+1) /\
   tmget tm 6 = .int .i64 s /\ tmget tm 7 = .int .i64 (p+2:Nat) /\ tmget tm 8 = .int .u32 top /\ tmget tm 9 = .slice (some ⟨N+2,0,none⟩) K K /\ tmget tm 45 = .int .i64 K /\ tmget tm 46 = .int .i64 i /\
   hget hp (N+0)=some ⟨122,1,false,tb (p+2+1) (lm Dv)⟩ /\ hget hp (N+1)=some ⟨122,1,false,tb (lu+1) (lm (lgR Uv Dv M))⟩ /\ hget hp (N+2)=some ⟨122,1,false,tb K f⟩ /\
   (∀ j,M <= j -> j < K -> f j=lm (Uv / Dv) j) /\ (∀ q,q < N -> hget hp q=hget h q) /\ nx=N+3) ?_ K
  ⟨0,fun _=>0,by omega,?_,?_,?_,?_,?_,?_,?_,?_,?_,?_,?_,fun j hj hj2=>by omega,?_,rfl⟩
 ·intro M tm hp nx ⟨i,f,hM,h0,h1,h6,h7,h8,h9,h45,h46,hb0,hb1,hb2,hf,hh,hnx⟩
  subst hnx
  by_cases c4:i < K
  ·obtain ⟨k,rfl⟩:∃ k,M=k+1:=⟨M - 1,by omega⟩
   obtain ⟨t2,t1,t0,top',d2,qd,X,g1,g2,g3,g4,g5,g6,gX,b2,b1,b0,bt,bd,ht,bq,bX,hI0,hI1,hI2,hI3,hI4,hcells⟩:=lg_step2 g (show k < K by omega) (show k+(p+2) < lu+1 by omega)
   rw [htop] at g4
   subst g4
   have e1:IntKind.i64.wrap ((K:Int) - 1)=((K - 1:Nat):Int):=by rw [i64_in _ (by omega)];omega
   have e2:IntKind.i64.wrap (((K - 1:Nat):Int) - (i:Int))=(k:Int):=by rw [i64_in _ (by omega)];omega
   have e3:IntKind.i64.wrap ((k:Int)+((p+2:Nat):Int))=((k+(p+2):Nat):Int):=by rw [i64_in _ (by omega)];omega
   have e4:IntKind.i64.wrap (((k+(p+2):Nat):Int) - 1)=((k+(p+1):Nat):Int):=by rw [i64_in _ (by omega)];omega
   have e5:IntKind.i64.wrap (((p+2:Nat):Int) - 2)=(p:Int):=by rw [i64_in _ (by omega)];omega
   have e6:IntKind.i64.wrap (((k+(p+2):Nat):Int) - 2)=((k+p:Nat):Int):=by rw [i64_in _ (by omega)];omega
   have e7:IntKind.i64.wrap (((k+(p+2):Nat):Int)+1)=((k+(p+2)+1:Nat):Int):=by rw [i64_in _ (by omega)];omega
   have e8:IntKind.i64.wrap ((i:Int)+1)=((i+1:Nat):Int):=by rw [i64_in _ (by omega)];omega
   have k2:(tb (lu+1) (lm (lgR Uv Dv (k+1))))[k+(p+2)]?=some (.int .u32 (t2:Nat)):=by rw [tb_get' _ (by omega),g1]
   have k1:(tb (lu+1) (lm (lgR Uv Dv (k+1))))[k+(p+1)]?=some (.int .u32 (t1:Nat)):=by rw [tb_get' _ (by omega),g2]
   have k0:(tb (lu+1) (lm (lgR Uv Dv (k+1))))[k+p]?=some (.int .u32 (t0:Nat)):=by rw [tb_get' _ (by omega),g3]
   have kd2:(tb (p+2+1) (lm Dv))[p]?=some (.int .u32 (d2:Nat)):=by rw [tb_get' _ (by omega),g5]
   have a1:k+(p+2) < lu+1:=by omega
   have a2:k+(p+1) < lu+1:=by omega
   have a3:k+p < lu+1:=by omega
   have a4:p < p+2:=by omega
   have a5:k < K:=by omega
   have a5':k+1 <= K:=by omega
   have a6:¬ (lu+1=k):=by omega
   have a7:k+(p+2)+1 <= lu+1:=by omega
   have a8:k+(p+2) <= lu:=by omega
   have a9:k <= k+(p+2)+1:=by omega
   have a10:k+(p+2)+1 - k=p+2+1:=by omega
   have x2:=u64_nat (n:=t2) (by omega)
   have x1:=u64_nat (n:=t1) (by omega)
   have x0:=u64_nat (n:=t0) (by omega)
   have xd:=u64_nat (n:=d2) (by omega)
   have xt:=u64_nat (n:=top) (by omega)
   have s2:IntKind.u64.wrap ((t2:Int) * 2 ^ min 32 IntKind.u64.bits)=((t2 * 2 ^ 32:Nat):Int):=shl64 (c:=t2) (s:=32) (by omega) (by omega)
   have o2:=bv_or64 b1 b2
   rw [gX] at o2
   clear g1 g2 g3 g5 gX
   have z1:¬ ((top:Int)=0):=by omega
   have z2:¬ (top=0):=by omega
   have q1:(X:Int).tdiv (top:Int)=((X / top:Nat):Int):=by rw [Int.tdiv_eq_ediv_of_nonneg (by omega)];rfl
   have q2:(X:Int).tmod (top:Int)=((X % top:Nat):Int):=by rw [Int.tmod_eq_emod_of_nonneg (by omega)];rfl
   have hml:=Nat.mod_lt X (show top > 0 by omega)
   have q3:=u64_nat (n:=X / top) (Nat.lt_of_le_of_lt (hI4 _ _ hI0) bX)
   have hr0:X % top < 4294967296:=by omega
   simp only [↓R0,R1,simprocAttr,-Int.reduceAbs,h0,h1,h6,h7,h8,h9,h45,h46,hb0,hb1,hb2,c4,e1,e2,e3,e4,k2,k1,a1,a2,x2,x1,xt,s2,o2,z1,z2,q1,q2,q3]
   refine lp_parts (fun m2 tm hp nx=>∃ (r:Nat),LI X top qd m2 r /\ r < 4294967296 /\ tmget tm 0 = .slice (some ⟨N+1,0,none⟩) (lu+1) (lu+1) /\ tmget tm 1 = .slice (some ⟨N+0,0,none⟩) (p+2) (p+2+1) /\
    tmget tm 6 = .int .i64 s /\ tmget tm 7 = .int .i64 (p+2:Nat) /\ tmget tm 8 = .int .u32 top /\ tmget tm 9 = .slice (some ⟨N+2,0,none⟩) K K /\ tmget tm 45 = .int .i64 K /\ tmget tm 46 = .int .i64 i /\
    tmget tm 11 = .int .i64 k /\ tmget tm 13 = .int .u64 m2 /\ tmget tm 14 = .int .u64 r /\
    hget hp (N+0)=some ⟨122,1,false,tb (p+2+1) (lm Dv)⟩ /\ hget hp (N+1)=some ⟨122,1,false,tb (lu+1) (lm (lgR Uv Dv (k+1)))⟩ /\ hget hp (N+2)=some ⟨122,1,false,tb K f⟩ /\
    (∀ q,q < N -> hget hp q=hget h q) /\ nx=N+3) ?_ (X / top)
    ⟨X % top,hI0,hr0,?_,?_,?_,?_,?_,?_,?_,?_,?_,?_,?_,hb0,hb1,hb2,hh,rfl⟩
   ·clear h0 h1 h6 h7 h8 h9 h45 h46 hb0 hb1 hb2 hh q1 q2 q3 hml hr0 hI0
    clear tm hp
    intro q tm hp nx ⟨r,hI,hr,h0,h1,h6,h7,h8,h9,h45,h46,h11,h13,h14,hb0,hb1,hb2,hh,hnx⟩
    subst hnx
    have htake:∀ q':Nat,qd <= q' -> q' <= qd+1 -> q' < 4294967296 -> spTake [.slice (some ⟨N+1,k,none⟩) (p+2+1) (lu+1 - k),.slice (some ⟨N+0,0,none⟩) (p+2) (p+2+1),.int .u32 (q':Nat)] hp=some (.bool (Nat.beq q' (qd+1)),N+1,⟨122,1,false,tb (lu+1) (lm (lgR Uv Dv k))⟩):=by
     intro q' l1 l2 l3
     obtain ⟨t1,t2⟩:=hcells q' l1 l2
     have hsh:shows hp (.slice (some ⟨N+0,0,none⟩) (p+2) (p+2+1))=some (tb (p+2) (lm Dv)):=by
      simp only [shows,hb0,tb_length,Nat.zero_add]
      rw [if_pos (by omega),List.drop_zero,tb_take _ (by omega)]
     unfold spTake
     simp only [hb1,hsh]
     rw [if_pos ⟨uok_lm _ _,uok_lm _ _,trivial,by rw [tb_length];omega,by omega,by omega,by omega,by omega,by decide⟩]
     rw [Int.toNat_natCast,lg_ud g,lg_dv g,tb_length,t1,t2]
    by_cases c5:q < 4294967296
    ·have n1:¬ ((q:Int) > 4294967295):=by omega
     have hqd2:q * d2 <= 4294967295 * 4294967295:=Nat.mul_le_mul (by omega) (by omega)
     have n2:IntKind.u64.wrap ((q:Int) * (d2:Int))=((q * d2:Nat):Int):=by rw [<- Int.natCast_mul,u64_nat (by omega)]
     have n3:IntKind.u64.wrap ((r:Int) * 2 ^ min 32 IntKind.u64.bits)=((r * 2 ^ 32:Nat):Int):=shl64 (c:=r) (s:=32) (by omega) (by omega)
     have n4:=bv_or64 b0 hr
     by_cases c7:w2 r t0 < q * d2
     ·have hcond:4294967296 <= q \/ w2 r t0 < q * d2:=.inr c7
      have n5:((q * d2:Nat):Int) > ((w2 r t0:Nat):Int):=by omega
      obtain ⟨y1,y2⟩:=hI1 q r hI hcond
      have hqX:=hI4 q r hI
      have u1:IntKind.u64.wrap ((q:Int) - 1)=((q - 1:Nat):Int):=by rw [u64_in _ (by omega)];omega
      have u2:IntKind.u64.wrap ((r:Int)+(top:Int))=((r+top:Nat):Int):=by rw [u64_in _ (by omega)];omega
      by_cases c6:r+top < 4294967296
      ·have u3:¬ (((r+top:Nat):Int) > 4294967295):=by omega
       simp only [↓R0,R1,simprocAttr,-Int.reduceAbs,h0,h1,h6,h7,h8,h9,h45,h46,h11,h13,h14,hb0,hb1,hb2,e5,e3,e6,a3,a4,k0,kd2,x0,xd,xt,u1,u2,u3,n1,n2,n3,n4,n5]
       exact ⟨q - 1,by omega,r+top,y2,c6,rfl,rfl,hh⟩
      ·obtain ⟨f1',f2',f3⟩:=hI3 (q - 1) (r+top) y2 (by omega)
       have u3:((r+top:Nat):Int) > 4294967295:=by omega
       simp only [↓R0,R1,simprocAttr,-Int.reduceAbs,h0,h1,h6,h7,h8,h9,h45,h46,h11,h13,h14,hb0,hb1,hb2,e5,e3,e6,a3,a4,k0,kd2,x0,xd,xt,u1,u2,u3,n1,n2,n3,n4,n5]
       have f1:=u32_nat f3
       have f4:=htake (q - 1) f1' f2' f3
       have f5:IntKind.u32.wrap (qd:Int)=(qd:Int):=u32_nat bq
       by_cases fq:(q - 1)=qd+1
       ·have f6:Nat.beq (q - 1) (qd+1)=true:=by rw [Nat.beq_eq];exact fq
        have f7:IntKind.u64.wrap ((((q - 1):Nat):Int) - 1)=(qd:Int):=by rw [u64_in _ (by omega)];omega
        rw [f6] at f4
        simp only [↓R0,R1,simprocAttr,-Int.reduceAbs,h0,h1,h6,h7,h8,h9,h45,h46,h11,h13,h14,hb0,hb1,hb2,c4,e2,e3,e4,e5,e6,e7,e8,a4,a5,a5',a6,a7,a8,a9,a10,mkSl,upS,f1,f4,f5,f7,tb_length,tb_set,u3]
        refine ⟨k,by omega,i+1,_,by omega,rfl,rfl,rfl,fun j hj hj2=>?_,?_⟩
        ·by_cases gj:j=k
         ·rw [if_pos gj,gj,g6]
         ·rw [if_neg gj];exact hf j (by omega) hj2
        ·intro q hq
         simp only [if_neg (show ¬ N+2=q by omega),if_neg (show ¬ N+1=q by omega)]
         exact hh q hq
       ·have f6:Nat.beq (q - 1) (qd+1)=false:=by
         cases hb:Nat.beq (q - 1) (qd+1) with
         | false=>rfl
         | true=>rw [Nat.beq_eq] at hb;exact absurd hb fq
        have f8:(q - 1)=qd:=by omega
        rw [f6] at f4
        simp only [↓R0,R1,simprocAttr,-Int.reduceAbs,h0,h1,h6,h7,h8,h9,h45,h46,h11,h13,h14,hb0,hb1,hb2,c4,e2,e3,e4,e5,e6,e7,e8,a4,a5,a5',a6,a7,a8,a9,a10,mkSl,upS,f1,f4,tb_length,tb_set,u3]
        refine ⟨k,by omega,i+1,_,by omega,rfl,rfl,rfl,fun j hj hj2=>?_,?_⟩
        ·by_cases gj:j=k
         ·rw [if_pos gj,gj,g6,f8]
         ·rw [if_neg gj];exact hf j (by omega) hj2
        ·intro q hq
         simp only [if_neg (show ¬ N+2=q by omega),if_neg (show ¬ N+1=q by omega)]
         exact hh q hq
     ·obtain ⟨f1',f2',f3⟩:=hI2 q r hI c5 (by omega)
      have n5:¬ (((q * d2:Nat):Int) > ((w2 r t0:Nat):Int)):=by omega
      simp only [↓R0,R1,simprocAttr,-Int.reduceAbs,h0,h1,h6,h7,h8,h9,h45,h46,h11,h13,h14,hb0,hb1,hb2,e5,e3,e6,a3,a4,k0,kd2,x0,xd,xt,n1,n2,n3,n4,n5]
      have f1:=u32_nat f3
      have f4:=htake q f1' f2' f3
      have f5:IntKind.u32.wrap (qd:Int)=(qd:Int):=u32_nat bq
      by_cases fq:q=qd+1
      ·have f6:Nat.beq q (qd+1)=true:=by rw [Nat.beq_eq];exact fq
       have f7:IntKind.u64.wrap (((q:Nat):Int) - 1)=(qd:Int):=by rw [u64_in _ (by omega)];omega
       rw [f6] at f4
       simp only [↓R0,R1,simprocAttr,-Int.reduceAbs,h0,h1,h6,h7,h8,h9,h45,h46,h11,h13,h14,hb0,hb1,hb2,c4,e2,e3,e4,e5,e6,e7,e8,a4,a5,a5',a6,a7,a8,a9,a10,mkSl,upS,f1,f4,f5,f7,tb_length,tb_set,n1]
       refine ⟨k,by omega,i+1,_,by omega,rfl,rfl,rfl,fun j hj hj2=>?_,?_⟩
       ·by_cases gj:j=k
        ·rw [if_pos gj,gj,g6]
        ·rw [if_neg gj];exact hf j (by omega) hj2
       ·intro q hq
        simp only [if_neg (show ¬ N+2=q by omega),if_neg (show ¬ N+1=q by omega)]
        exact hh q hq
      ·have f6:Nat.beq q (qd+1)=false:=by
        cases hb:Nat.beq q (qd+1) with
        | false=>rfl
        | true=>rw [Nat.beq_eq] at hb;exact absurd hb fq
       have f8:q=qd:=by omega
       rw [f6] at f4
       simp only [↓R0,R1,simprocAttr,-Int.reduceAbs,h0,h1,h6,h7,h8,h9,h45,h46,h11,h13,h14,hb0,hb1,hb2,c4,e2,e3,e4,e5,e6,e7,e8,a4,a5,a5',a6,a7,a8,a9,a10,mkSl,upS,f1,f4,tb_length,tb_set,n1]
       refine ⟨k,by omega,i+1,_,by omega,rfl,rfl,rfl,fun j hj hj2=>?_,?_⟩
       ·by_cases gj:j=k
        ·rw [if_pos gj,gj,g6,f8]
        ·rw [if_neg gj];exact hf j (by omega) hj2
       ·intro q hq
        simp only [if_neg (show ¬ N+2=q by omega),if_neg (show ¬ N+1=q by omega)]
        exact hh q hq
    ·have n1:(q:Int) > 4294967295:=by omega
     have hcond:4294967296 <= q \/ w2 r t0 < q * d2:=.inl (by omega)
     obtain ⟨y1,y2⟩:=hI1 q r hI hcond
     have hqX:=hI4 q r hI
     have u1:IntKind.u64.wrap ((q:Int) - 1)=((q - 1:Nat):Int):=by rw [u64_in _ (by omega)];omega
     have u2:IntKind.u64.wrap ((r:Int)+(top:Int))=((r+top:Nat):Int):=by rw [u64_in _ (by omega)];omega
     by_cases c6:r+top < 4294967296
     ·have u3:¬ (((r+top:Nat):Int) > 4294967295):=by omega
      simp only [↓R0,R1,simprocAttr,-Int.reduceAbs,h0,h1,h6,h7,h8,h9,h45,h46,h11,h13,h14,hb0,hb1,hb2,e5,e3,e6,a3,a4,k0,kd2,x0,xd,xt,u1,u2,u3,n1]
      exact ⟨q - 1,by omega,r+top,y2,c6,rfl,rfl,hh⟩
     ·obtain ⟨f1',f2',f3⟩:=hI3 (q - 1) (r+top) y2 (by omega)
      have u3:((r+top:Nat):Int) > 4294967295:=by omega
      simp only [↓R0,R1,simprocAttr,-Int.reduceAbs,h0,h1,h6,h7,h8,h9,h45,h46,h11,h13,h14,hb0,hb1,hb2,e5,e3,e6,a3,a4,k0,kd2,x0,xd,xt,u1,u2,u3,n1]
      have f1:=u32_nat f3
      have f4:=htake (q - 1) f1' f2' f3
      have f5:IntKind.u32.wrap (qd:Int)=(qd:Int):=u32_nat bq
      by_cases fq:(q - 1)=qd+1
      ·have f6:Nat.beq (q - 1) (qd+1)=true:=by rw [Nat.beq_eq];exact fq
       have f7:IntKind.u64.wrap ((((q - 1):Nat):Int) - 1)=(qd:Int):=by rw [u64_in _ (by omega)];omega
       rw [f6] at f4
       simp only [↓R0,R1,simprocAttr,-Int.reduceAbs,h0,h1,h6,h7,h8,h9,h45,h46,h11,h13,h14,hb0,hb1,hb2,c4,e2,e3,e4,e5,e6,e7,e8,a4,a5,a5',a6,a7,a8,a9,a10,mkSl,upS,f1,f4,f5,f7,tb_length,tb_set,u3]
       refine ⟨k,by omega,i+1,_,by omega,rfl,rfl,rfl,fun j hj hj2=>?_,?_⟩
       ·by_cases gj:j=k
        ·rw [if_pos gj,gj,g6]
        ·rw [if_neg gj];exact hf j (by omega) hj2
       ·intro q hq
        simp only [if_neg (show ¬ N+2=q by omega),if_neg (show ¬ N+1=q by omega)]
        exact hh q hq
      ·have f6:Nat.beq (q - 1) (qd+1)=false:=by
        cases hb:Nat.beq (q - 1) (qd+1) with
        | false=>rfl
        | true=>rw [Nat.beq_eq] at hb;exact absurd hb fq
       have f8:(q - 1)=qd:=by omega
       rw [f6] at f4
       simp only [↓R0,R1,simprocAttr,-Int.reduceAbs,h0,h1,h6,h7,h8,h9,h45,h46,h11,h13,h14,hb0,hb1,hb2,c4,e2,e3,e4,e5,e6,e7,e8,a4,a5,a5',a6,a7,a8,a9,a10,mkSl,upS,f1,f4,tb_length,tb_set,u3]
       refine ⟨k,by omega,i+1,_,by omega,rfl,rfl,rfl,fun j hj hj2=>?_,?_⟩
       ·by_cases gj:j=k
        ·rw [if_pos gj,gj,g6,f8]
        ·rw [if_neg gj];exact hf j (by omega) hj2
       ·intro q hq
        simp only [if_neg (show ¬ N+2=q by omega),if_neg (show ¬ N+1=q by omega)]
        exact hh q hq
   ·(first | (simp only [↓R0,R1,simprocAttr,-Int.reduceAbs,h0];done) | (simp only [↓R0,R1,simprocAttr,-Int.reduceAbs,h0];rfl) | rfl)
   ·(first | (simp only [↓R0,R1,simprocAttr,-Int.reduceAbs,h1];done) | (simp only [↓R0,R1,simprocAttr,-Int.reduceAbs,h1];rfl) | rfl)
   ·(first | (simp only [↓R0,R1,simprocAttr,-Int.reduceAbs,h6];done) | (simp only [↓R0,R1,simprocAttr,-Int.reduceAbs,h6];rfl) | rfl)
   ·(first | (simp only [↓R0,R1,simprocAttr,-Int.reduceAbs,h7];done) | (simp only [↓R0,R1,simprocAttr,-Int.reduceAbs,h7];rfl) | rfl)
   ·(first | (simp only [↓R0,R1,simprocAttr,-Int.reduceAbs,h8];done) | (simp only [↓R0,R1,simprocAttr,-Int.reduceAbs,h8];rfl) | rfl)
   ·(first | (simp only [↓R0,R1,simprocAttr,-Int.reduceAbs,h9];done) | (simp only [↓R0,R1,simprocAttr,-Int.reduceAbs,h9];rfl) | rfl)
   ·(first | (simp only [↓R0,R1,simprocAttr,-Int.reduceAbs,h45];done) | (simp only [↓R0,R1,simprocAttr,-Int.reduceAbs,h45];rfl) | rfl)
   ·(first | (simp only [↓R0,R1,simprocAttr,-Int.reduceAbs,h46];done) | (simp only [↓R0,R1,simprocAttr,-Int.reduceAbs,h46];rfl) | rfl)
   ·(try simp only [↓R0,R1,simprocAttr,-Int.reduceAbs]) <;> rfl
   ·(try simp only [↓R0,R1,simprocAttr,-Int.reduceAbs]) <;> rfl
   ·(try simp only [↓R0,R1,simprocAttr,-Int.reduceAbs]) <;> rfl
  ·have ei:i=K:=by omega
   have em:M=0:=by omega
   subst em
   subst ei
   have hun:spUnshift [.slice (some ⟨N+1,0,none⟩) (p+2) (lu+1),.int .i64 (s:Nat)] hp=some (fun k => .slice (some ⟨k,0,none⟩) (p+2) (p+2),⟨122,1,false,tb (p+2) (lm (Uv % Dv / 2 ^ s))⟩):=by
    have hsh:shows hp (.slice (some ⟨N+1,0,none⟩) (p+2) (lu+1))=some (tb (p+2) (lm (lgR Uv Dv 0))):=by
     simp only [shows,hb1,tb_length,Nat.zero_add]
     rw [if_pos (by omega),List.drop_zero,tb_take _ (by omega)]
    unfold spUnshift
    simp only [hsh]
    rw [if_pos ⟨uok_lm _ _,by rw [tb_length];omega,by omega,by omega⟩]
    rw [Int.toNat_natCast,lg_end g,tb_length]
   have htb:tb i f=tb i (lm (Uv / Dv)):=tb_congr fun j hj=>hf j (by omega) hj
   have a6:¬ (lu+1=0):=by omega
   have a7:p+2 <= lu+1:=by omega
   have a8:p+1 <= lu:=by omega
   have a9:p+2 - 0=p+2:=rfl
   have a10:lu+1 - 0=lu+1:=rfl
   simp only [↓R0,R1,simprocAttr,-Int.reduceAbs,h0,h1,h6,h7,h8,h9,h45,h46,hb0,hb1,hb2,c4,mkSl,a6,a7,a8,a9,a10,nwS,hun]
   refine ⟨trivial,_,N+2,N+3,false,false,rfl,?_,by omega,by omega,by omega,?_,?_,?_⟩
   ·(first | (simp only [↓R0,R1,simprocAttr,-Int.reduceAbs,one];done) | (simp only [↓R0,R1,simprocAttr,-Int.reduceAbs,one];rfl) | rfl)
   ·simp only [↓R0,R1,simprocAttr,-Int.reduceAbs,hb2,htb]
   ·simp only [↓R0,R1,simprocAttr,-Int.reduceAbs]
   ·intro q hq
    simp only [↓R0,R1,simprocAttr,-Int.reduceAbs,hget_new hq]
    exact hh q hq
 ·(try simp only [↓R0,R1,simprocAttr,-Int.reduceAbs]) <;> rfl
 ·(try simp only [↓R0,R1,simprocAttr,-Int.reduceAbs]) <;> rfl
 ·(try simp only [↓R0,R1,simprocAttr,-Int.reduceAbs]) <;> rfl
 ·(try simp only [↓R0,R1,simprocAttr,-Int.reduceAbs]) <;> rfl
 ·(try simp only [↓R0,R1,simprocAttr,-Int.reduceAbs]) <;> rfl
 ·(try simp only [↓R0,R1,simprocAttr,-Int.reduceAbs]) <;> rfl
 ·(try simp only [↓R0,R1,simprocAttr,-Int.reduceAbs]) <;> rfl
 ·(try simp only [↓R0,R1,simprocAttr,-Int.reduceAbs]) <;> rfl
 ·(try simp only [↓R0,R1,simprocAttr,-Int.reduceAbs]) <;> rfl
 ·(first | (simp only [↓R0,R1,simprocAttr,-Int.reduceAbs,lgR_top g];done) | (simp only [↓R0,R1,simprocAttr,-Int.reduceAbs,lgR_top g];rfl) | rfl)
 ·(try simp only [↓R0,R1,simprocAttr,-Int.reduceAbs]) <;> rfl
 ·intro q hq
  simp only [↓R0,R1,simprocAttr,-Int.reduceAbs,hget_new hq]
theorem ok_nlong:SpecOK Tryz.prog 128 (nw2S spLong):=by
 refine nw2_run (env_cons ok_lz32 (env_cons ok_nshift (env_cons ok_nunshift (env_cons ok_ntake (env_nil _))))) mixed tr128 ?_ ?_
 ·intro args h h' v hle e
  unfold spLong at e ⊢
  split at e
  ·split at e
   ·rename_i us ds hcu hcd
    simp only [shows_mono hle hcu,shows_mono hle hcd];exact e
   ·cases e
  ·cases e
 intro args vf b b' h N hG hN
 unfold spLong at hG
 split at hG
 case h_2=>cases hG
 rename_i _ vu vd
 split at hG
 case h_2=>cases hG
 rename_i us ds hcu hcd
 split at hG
 case isFalse=>cases hG
 rename_i hl
 obtain ⟨huu,hud,hm2,hmu,hku,hD1⟩:=hl
 cases hG
 refine ⟨rfl,rfl,tb_base _ _,tb_base _ _,vr2_sl _ _ _ _,by simp,?_⟩
 obtain ⟨ku,ou,lu,cu,blku,rfl,hbu,hleu,hcellu,hU,hlenu⟩:=shows_tb hcu huu
 obtain ⟨kd,od,m,cd,blkd,rfl,hbd,hled,hcelld,hD,hlend⟩:=shows_tb hcd hud
 have hku':=hN _ _ hbu
 have hkd':=hN _ _ hbd
 rw [hlenu] at hmu hku ⊢
 rw [hlend] at hm2 hmu hD1 ⊢
 obtain ⟨p,rfl⟩:∃ p,m=p+2:=⟨m - 2,by omega⟩
 rw [show p+2 - 1=p+1 by omega] at hD1
 have hcell1:=hcelld (p+1) (by omega)
 obtain ⟨hs,hDs,hz,g,hdiv,hmod⟩:=lz_all hU hD hD1 hmu
 generalize 32 - l32 (lm (ud ds) (p+1))=s at *
 have hd:spShift [.slice (some ⟨kd,od,none⟩) (p+2) cd,.int .i64 (s:Nat)] h=some (fun k => .slice (some ⟨k,0,none⟩) (p+2+1) (p+2+1),⟨122,1,false,tb (p+2+1) (lm (ud ds * 2 ^ s))⟩):=by
  unfold spShift
  simp only [hcd]
  rw [if_pos ⟨hud,by rw [hlend];omega,by omega,by omega⟩,Int.toNat_natCast,hlend]
 have hu:∀ x,spShift [.slice (some ⟨ku,ou,none⟩) lu cu,.int .i64 (s:Nat)] ((N+0,x) :: h)=some (fun k => .slice (some ⟨k,0,none⟩) (lu+1) (lu+1),⟨122,1,false,tb (lu+1) (lm (ud us * 2 ^ s))⟩):=by
  intro x
  unfold spShift
  simp only [shows_new hku',hcu]
  rw [if_pos ⟨huu,by rw [hlenu];omega,by omega,by omega⟩,Int.toNat_natCast,hlenu]
 have:=nlong_wp hbd hcell1 hz hd hu hs g (by omega) hmu hku
 rw [hdiv,hmod] at this
 exact this
end Go.Eng
end
section
set_option maxRecDepth 4000
namespace Go.Eng
open Go Go.Proofs Go.IntWalk
def spNDiv:List Value -> Option Value
 | [.string ⟨⟨l⟩⟩,.string ⟨⟨m⟩⟩]=>if l.length <= 34359738368 /\ m.length <= 34359738368 then
   (if nl m=0 then some (.tuple ⟨[.string ⟨⟨[]⟩⟩,.string ⟨⟨[]⟩⟩,.bool false]⟩) else some (.tuple ⟨[.string ⟨⟨bl (nl l / nl m)⟩⟩,.string ⟨⟨bl (nl l % nl m)⟩⟩,.bool true]⟩)) else none
 | _=>none
def c115:ICode:=
 (.seq (.reg [qq 4 (.mv (.c e0)),qq 5 (.mv (.c e0)),qq 6 (.mv (.c (.bool false)))]) (.seq (.reg [qq 12 (.mv (.t 1)),qq 13 (.call 121 [(.t 12)]),qq 7 (.mv (.t 13))]) (.seq (.block 0 (.seq (.reg [qq 15 (.mv (.t 7)),qq 16 (.lensl (.t 15)),qq 17 (.bin .eql (.t 16) (ci 0)),qq 14 (.mv (.t 17))]) (.cond (.t 14) (.seq (.reg [qq 4 (.mv (.c e0)),qq 5 (.mv (.c e0)),qq 6 (.mv (.c (.bool false)))]) .ret) (.seq (.reg [qq 19 (.mv (.t 0)),qq 20 (.mv (.t 1)),qq 21 (.call 124 [(.t 19),(.t 20)]),qq 22 (.bin .lss (.t 21) (ci 0)),qq 18 (.mv (.t 22))]) (.cond (.t 18) (.seq (.reg [qq 23 (.mv (.t 0)),qq 24 (.call 106 [(.t 23)]),qq 4 (.mv (.c e0)),qq 5 (.mv (.t 24)),qq 6 (.mv (.c (.bool true)))]) .ret) (.seq (.reg [qq 26 (.mv (.t 7)),qq 27 (.lensl (.t 26)),qq 28 (.bin .eql (.t 27) (ci 1)),qq 25 (.mv (.t 28))]) (.cond (.t 25) (.seq (.dreg [qu 30 (.mv (.t 0)),qu 31 (.call 121 [(.t 30)]),qu 32 (.mv (.t 7)),qu 33 (.ixsl 1 (.t 32) (ci 0)),qv 34 [1] (.load false 1 (.t 33)),qu 35 (.call 127 [(.t 31),(.t 34)]),qu 29 (.mv (.t 35)),qu 36 (.ext (.t 29) 0),qu 37 (.ext (.t 29) 1),qu 8 (.mv (.t 36)),qu 9 (.mv (.t 37))]) (.seq (.reg [qq 38 (.mv (.t 8)),qq 39 (.call 123 [(.t 38)]),qq 40 (.mv (.t 9)),qq 41 (.conv .u64 (.t 40)),qq 42 (.call 112 [(.t 41)]),qq 4 (.mv (.t 39)),qq 5 (.mv (.t 42)),qq 6 (.mv (.c (.bool true)))]) .ret)) .skip))))))) (.seq (.reg [qq 44 (.mv (.t 0)),qq 45 (.call 121 [(.t 44)]),qq 46 (.mv (.t 7)),qq 47 (.call 128 [(.t 45),(.t 46)]),qq 43 (.mv (.t 47)),qq 48 (.ext (.t 43) 0),qq 49 (.ext (.t 43) 1),qq 10 (.mv (.t 48)),qq 11 (.mv (.t 49))]) (.seq (.reg [qq 50 (.mv (.t 10)),qq 51 (.call 123 [(.t 50)]),qq 52 (.mv (.t 11)),qq 53 (.call 123 [(.t 52)]),qq 4 (.mv (.t 51)),qq 5 (.mv (.t 53)),qq 6 (.mv (.c (.bool true)))]) .ret)))))
theorem tr115:trFun Tryz.prog 115=some ⟨54,[.t 4,.t 5,.t 6],c115⟩:=by kernel_rfl
theorem lk_low {n:Nat} (h:n ≠ 0):4294967296 ^ (lk n - 1) <= n:=by
 have h0:lk n ≠ 0:=fun e=>h (lk_zero.1 e)
 exact lk_top (k:=lk n - 1) (by omega)
theorem lk_mono {a b:Nat} (h:a <= b):lk a <= lk b:=by
 have:=bl_length_mono h
 unfold lk;omega
theorem short_at {h:Heap} {N a b:Nat} (hb0:b ≠ 0) (hb1:lk b=1) (ha:lk a <= 8589934592) :
  spShort [.slice (some ⟨N+1,0,none⟩) (lk a) (lk a),.int .u32 (b:Nat)] ((N+1,some ⟨122,1,false,tb (lk a) (lm a)⟩) :: (N+0,some ⟨122,1,false,tb 1 (lm b)⟩) :: h) =
   some (fun k => .tuple ⟨[.slice (some ⟨k,0,none⟩) (lk a) (lk a),.int .u32 (a % b:Nat)]⟩,⟨122,1,false,tb (lk a) (lm (a / b))⟩):=by
 have hb:b < 4294967296:=by have:=lk_lt b;rw [hb1] at this;omega
 unfold spShort
 simp only [shows,hget,if_true,tb_length,Nat.zero_add,Nat.le_refl,List.drop_zero,tb_all]
 rw [if_pos ⟨uok_lm _ _,by omega,by omega,by omega⟩,Int.toNat_natCast,ud_tb,Nat.mod_eq_of_lt (lk_lt a)]
theorem long_at {h:Heap} {N a b:Nat} (hb1:2 <= lk b) (hab:b <= a) (ha:lk a <= 8589934592) :
  spLong [.slice (some ⟨N+1,0,none⟩) (lk a) (lk a),.slice (some ⟨N+0,0,none⟩) (lk b) (lk b)] ((N+1,some ⟨122,1,false,tb (lk a) (lm a)⟩) :: (N+0,some ⟨122,1,false,tb (lk b) (lm b)⟩) :: h) =
   some (fun x y => .tuple ⟨[.slice (some ⟨x,0,none⟩) (lk a+1 - lk b) (lk a+1 - lk b),.slice (some ⟨y,0,none⟩) (lk b) (lk b)]⟩,⟨122,1,false,tb (lk a+1 - lk b) (lm (a / b))⟩,⟨122,1,false,tb (lk b) (lm (a % b))⟩):=by
 have hb0:b ≠ 0:=fun e=>by rw [lk_zero.2 e] at hb1;omega
 unfold spLong
 simp only [shows,hget,if_true,if_neg (show ¬ N+1=N+0 by omega),tb_length,Nat.zero_add,Nat.le_refl,List.drop_zero,tb_all]
 have ea:ud (tb (lk a) (lm a))=a:=by rw [ud_tb,Nat.mod_eq_of_lt (lk_lt a)]
 have eb:ud (tb (lk b) (lm b))=b:=by rw [ud_tb,Nat.mod_eq_of_lt (lk_lt b)]
 rw [ea,eb,if_pos ⟨uok_lm _ _,uok_lm _ _,hb1,lk_mono hab,ha,lk_low hb0⟩]
theorem mag_quo {a b:Nat} (hb0:b ≠ 0) (hab:b <= a):a / b < 4294967296 ^ (lk a+1 - lk b):=by
 have h1:=lk_low hb0
 have h2:=lk_lt a
 have h3:=lk_mono hab
 have h0:lk b ≠ 0:=fun e=>hb0 (lk_zero.1 e)
 refine (Nat.div_lt_iff_lt_mul (by omega)).2 ?_
 have e:4294967296 ^ lk a=4294967296 ^ (lk a+1 - lk b) * 4294967296 ^ (lk b - 1):=by rw [<- Nat.pow_add];congr 1;omega
 rw [e] at h2
 exact Nat.lt_of_lt_of_le h2 (Nat.mul_le_mul_left _ h1)
set_option maxHeartbeats 1000000 in
theorem ok_nDiv:SpecOK Tryz.prog 115 (flat spNDiv):=by
 refine flat_run (env_cons ok_nlimbs (env_cons ok_nCmp (env_cons ok_nNorm (env_cons ok_nshort (env_cons ok_nmag (env_cons ok_nFU64 (env_cons ok_nlong (env_nil _)))))))) mixed tr115 ?_
 intro args v h N hG
 unfold spNDiv at hG
 split at hG
 case h_2=>cases hG
 rename_i l m
 split at hG
 case isFalse=>cases hG
 rename_i hl
 obtain ⟨hl,hm⟩:=hl
 have hl':l.length <= 1099511627776:=by omega
 have hm':m.length <= 1099511627776:=by omega
 have hL:lk (nl l) <= 8589934592:=lk_len (Nat.le_trans (bl_length_nl l) (by omega))
 have hM:lk (nl m) <= 8589934592:=lk_len (Nat.le_trans (bl_length_nl m) (by omega))
 split at hG
 ·rename_i h0
  cases hG
  refine ⟨rfl,by simp,?_⟩
  have hk:lk 0=0:=lk_zero.2 rfl
  simp only [c115,G0,Nat.reduceAdd]
  simp only [↓R0,R1,simprocAttr,-Int.reduceAbs,nwS,spLimbs,hl',hm',h0,hk,Int.natCast_zero,Fin,isEnd,resL,res1,iE,rE]
  exact ⟨_,rfl,rfl,fun k hk=>by simp only [ne_nb hk,if_false]⟩
 rename_i h0
 cases hG
 refine ⟨rfl,by simp,?_⟩
 simp only [c115,G0,Nat.reduceAdd]
 generalize ha:nl l=a at *
 generalize hb:nl m=b at *
 have hk0:¬ (lk b=0):=fun e=>h0 (lk_zero.1 e)
 have hk0':¬ (((lk b:Nat):Int)=0):=by omega
 by_cases hlt:a < b
 ·rw [Nat.div_eq_of_lt hlt,Nat.mod_eq_of_lt hlt,bl_zero]
  simp only [↓R0,R1,simprocAttr,-Int.reduceAbs,nwS,spLimbs,hl',hm',ha,hb,hk0,hk0',spNCmp,cmpN_neg,hlt,spNNorm,Fin,isEnd,resL,res1,iE,rE]
  exact ⟨_,rfl,rfl,fun k hk=>by simp only [ne_nb hk,if_false]⟩
 by_cases hk1:lk b=1
 ·have hb1:b < 4294967296:=by have:=lk_lt b;rw [hk1] at this;omega
  have t0:(tb 1 (lm b))[0]?=some (.int .u32 (b:Nat)):=by rw [tb_get' _ (by omega),lm_zero,Nat.mod_eq_of_lt hb1]
  have hr:=Nat.mod_lt a (show b > 0 by omega)
  have w1:=u64_nat (n:=a % b) (by omega)
  have w2:((a % b:Nat):Int) < 18446744073709551616:=by omega
  have hq:ud (tb (lk a) (lm (a / b)))=a / b:=by rw [ud_tb,Nat.mod_eq_of_lt (Nat.lt_of_le_of_lt (Nat.div_le_self _ _) (lk_lt a))]
  have c5:lk a <= 34359738368:=by omega
  have ss:=fun h=>short_at (h:=h) (N:=N) h0 hk1 hL
  simp only [↓R0,R1,simprocAttr,-Int.reduceAbs,nwS,spLimbs,hl',hm',ha,hb,hk0,hk0',spNCmp,cmpN_neg,hlt,hk1,t0,ss,rdS,spMag,shows,tb_all,uok_lm,tb_length,c5,hq,w1,w2,spFU64,Fin,isEnd,resL,res1,iE,rE]
  exact ⟨_,rfl,rfl,fun k hk=>by simp only [ne_nb hk,if_false]⟩
 ·have hk2:2 <= lk b:=by omega
  have hk1':¬ (((lk b:Nat):Int)=1):=by omega
  have nn:¬ (N=N+1):=by omega
  have ss:=fun h=>long_at (h:=h) (N:=N) hk2 (show b <= a by omega) hL
  have hq:ud (tb (lk a+1 - lk b) (lm (a / b)))=a / b:=by rw [ud_tb,Nat.mod_eq_of_lt (mag_quo h0 (by omega))]
  have hr:ud (tb (lk b) (lm (a % b)))=a % b:=by rw [ud_tb,Nat.mod_eq_of_lt (Nat.lt_trans (Nat.mod_lt a (by omega)) (lk_lt b))]
  have c5:lk a+1 - lk b <= 34359738368:=by omega
  have c6:lk b <= 34359738368:=by omega
  simp only [↓R0,R1,simprocAttr,-Int.reduceAbs,nwS,spLimbs,hl',hm',ha,hb,hk0,hk0',spNCmp,cmpN_neg,hlt,hk1,hk1',nn,ss,nw2S,a_call2,rdS,spMag,shows,tb_all,uok_lm,tb_length,c5,c6,hq,hr,Fin,isEnd,resL,res1,iE,rE]
  exact ⟨_,rfl,rfl,fun k hk=>by simp only [ne_nb hk,if_false];rw [if_neg (by omega)]⟩
def spNGcd:List Value -> Option Value
 | [.string ⟨⟨l⟩⟩,.string ⟨⟨m⟩⟩]=>if l.length <= 34359738368 /\ m.length <= 34359738368 then some (.string ⟨⟨bl (Nat.gcd (nl l) (nl m))⟩⟩) else none
 | _=>none
def c113:ICode:=
 (.seq (.reg [qq 4 (.mv (.c e0))]) (.seq (.block 0 (.loop (.seq (.seq (.reg [qq 12 (.mv (.t 1)),qq 13 (.call 106 [(.t 12)]),qq 14 (.bin .neq (.t 13) (.c e0))]) (.cond (.t 14) .skip (.exit 0))) (.block 1 (.seq (.reg [qq 16 (.mv (.t 0)),qq 17 (.call 126 [(.t 16)]),qq 15 (.mv (.t 17)),qq 18 (.ext (.t 15) 0),qq 19 (.ext (.t 15) 1),qq 5 (.mv (.t 18)),qq 6 (.mv (.t 19))]) (.seq (.reg [qq 21 (.mv (.t 1)),qq 22 (.call 126 [(.t 21)]),qq 20 (.mv (.t 22)),qq 23 (.ext (.t 20) 0),qq 24 (.ext (.t 20) 1),qq 7 (.mv (.t 23)),qq 8 (.mv (.t 24))]) (.seq (.seq (.reg [qq 25 (.mv (.t 6)),qq 26 (.mv (.t 25)),⟨(some 27),(some (26,true)),(.mv (.t 8))⟩,qq 28 (.pick (.t 26) (.t 27) (.c (.bool false)))]) (.cond (.t 28) (.seq (.block 2 (.loop (.seq (.seq (.reg [qq 29 (.mv (.t 7)),qq 30 (.bin .neq (.t 29) (.c (.int .u64 0)))]) (.cond (.t 30) .skip (.exit 2))) (.block 3 (.dreg [qu 31 (.mv (.t 7)),qu 32 (.mv (.t 5)),qu 33 (.mv (.t 7)),qu 34 (.bin .rem (.t 32) (.t 33)),qu 5 (.mv (.t 31)),qu 7 (.mv (.t 34))]))))) (.seq (.reg [qq 35 (.mv (.t 5)),qq 36 (.call 112 [(.t 35)]),qq 4 (.mv (.t 36))]) .ret)) .skip)) (.seq (.reg [qq 38 (.mv (.t 0)),qq 39 (.mv (.t 1)),qq 40 (.call 115 [(.t 38),(.t 39)]),qq 37 (.mv (.t 40)),qq 41 (.ext (.t 37) 0),qq 42 (.ext (.t 37) 1),qq 43 (.ext (.t 37) 2),qq 9 (.mv (.t 41)),qq 10 (.mv (.t 42)),qq 11 (.mv (.t 43))]) (.reg [qq 44 (.mv (.t 1)),qq 45 (.mv (.t 10)),qq 0 (.mv (.t 44)),qq 1 (.mv (.t 45))]))))))))) (.seq (.reg [qq 46 (.mv (.t 0)),qq 47 (.call 106 [(.t 46)]),qq 4 (.mv (.t 47))]) .ret)))
theorem tr113:trFun Tryz.prog 113=some ⟨48,[.t 4],c113⟩:=by kernel_rfl
theorem gcd_len {a b k:Nat} (hb:b ≠ 0) (h:(bl b).length <= k):(bl (a % b)).length <= k:=
 Nat.le_trans (bl_length_mono (Nat.le_of_lt (Nat.mod_lt _ (by omega)))) h
set_option maxHeartbeats 1000000 in
theorem ok_nGcd:SpecOK Tryz.prog 113 (flat spNGcd):=by
 refine flat_run (env_cons ok_nNorm (env_cons ok_nU64 (env_cons ok_nFU64 (env_cons ok_nDiv (env_nil _))))) mixed tr113 ?_
 intro args v h N hG
 unfold spNGcd at hG
 split at hG
 case h_2=>cases hG
 rename_i l m
 split at hG
 case isFalse=>cases hG
 rename_i hl
 obtain ⟨hl,hm⟩:=hl
 cases hG
 refine ⟨rfl,by simp,?_⟩
 simp only [c113,G0,Nat.reduceAdd]
 simp only [↓R0,R1,simprocAttr,-Int.reduceAbs]
 refine lp_parts (fun n tm hp nx=>∃ (l' m':List UInt8),n=nl m' /\ tmget tm 0 = .string ⟨⟨l'⟩⟩ /\ tmget tm 1 = .string ⟨⟨m'⟩⟩ /\ l'.length <= 34359738368 /\ m'.length <= 34359738368 /\ Nat.gcd (nl l') (nl m')=Nat.gcd (nl l) (nl m) /\
   hp=h /\ nx=N+0) ?_ (nl m) ⟨l,m,rfl,?_,?_,hl,hm,rfl,rfl,rfl⟩
 ·intro n tm hp nx ⟨l',m',hn,h0,h1,hl1,hm1,hg,hh,hnx⟩
  rw [hnx,hh]
  clear hnx hh
  rw [<- hg]
  have hl':l'.length <= 1099511627776:=by omega
  have hm':m'.length <= 1099511627776:=by omega
  by_cases hb0:nl m'=0
  ·rw [hb0,Nat.gcd_zero_right]
   simp only [↓R0,R1,simprocAttr,-Int.reduceAbs,h0,h1,spNNorm,hl',hm',hb0,bl_zero,Fin,isEnd,resL,res1,iE,rE]
   exact ⟨_,rfl,rfl,fun k hk=>by simp only [ne_nb hk,if_false]⟩
  ·have hbn:¬ (bl (nl m')=[]):=fun e=>hb0 (bl_eq_nil.1 e)
   by_cases hs:nl l' < 18446744073709551616 /\ nl m' < 18446744073709551616
   ·obtain ⟨hs1,hs2⟩:=hs
    simp only [↓R0,R1,simprocAttr,-Int.reduceAbs,h0,h1,spNNorm,hl',hm',hbn,spU64,hs1,hs2]
    generalize nl l'=a at *
    generalize nl m'=b at *
    refine lp_parts (fun n tm hp nx=>∃ (x:Nat),x < 18446744073709551616 /\ n < 18446744073709551616 /\ tmget tm 5 = .int .u64 x /\ tmget tm 7 = .int .u64 n /\ Nat.gcd x n=Nat.gcd a b /\ hp=h /\ nx=N+0) ?_ b ⟨a,hs1,hs2,?_,?_,rfl,rfl,rfl⟩
    ·clear h0 h1
     clear tm hp
     intro y tm hp nx ⟨x,hx,hy,h5,h7,hxy,hh,hnx⟩
     rw [hnx,hh]
     clear hnx hh
     by_cases y0:y=0
     ·subst y0
      rw [Nat.gcd_zero_right] at hxy
      rw [<- hxy]
      have f1:((x:Nat):Int) < 18446744073709551616:=by omega
      simp only [↓R0,R1,simprocAttr,-Int.reduceAbs,h5,h7,spFU64,f1,Int.natCast_zero,Fin,isEnd,resL,res1,iE,rE]
      exact ⟨_,rfl,rfl,fun k hk=>by simp only [ne_nb hk,if_false]⟩
     ·have y1:¬ ((y:Int)=0):=by omega
      have e1:(x:Int).tmod (y:Int)=((x % y:Nat):Int):=by rw [Int.tmod_eq_emod_of_nonneg (by omega)];rfl
      have hmod:=Nat.mod_lt x (show y > 0 by omega)
      simp only [↓R0,R1,simprocAttr,-Int.reduceAbs,h5,h7,y0,y1,e1]
      refine ⟨x % y,hmod,y,hy,by omega,rfl,rfl,?_⟩
      rw [<- hxy,Nat.gcd_comm x y,Nat.gcd_rec y x,Nat.gcd_comm]
    ·(try simp only [↓R0,R1,simprocAttr,-Int.reduceAbs]) <;> rfl
    ·(try simp only [↓R0,R1,simprocAttr,-Int.reduceAbs]) <;> rfl
   ·have next:∃ n',n' < n /\ n'=nl (bl (nl l' % nl m')):=⟨_,by rw [nl_bl,hn];exact Nat.mod_lt _ (by omega),rfl⟩
    have hgg:Nat.gcd (nl m') (nl (bl (nl l' % nl m')))=Nat.gcd (nl l') (nl m'):=by
     rw [nl_bl,Nat.gcd_comm (nl l') (nl m'),Nat.gcd_rec (nl m') (nl l'),Nat.gcd_comm]
    have hlen:(bl (nl l' % nl m')).length <= 34359738368:=gcd_len hb0 (Nat.le_trans (bl_length_nl m') hm1)
    obtain ⟨n',hn1,hn2⟩:=next
    by_cases hs1:nl l' < 18446744073709551616
    ·have hs2:¬ (nl m' < 18446744073709551616):=fun e=>hs ⟨hs1,e⟩
     simp only [↓R0,R1,simprocAttr,-Int.reduceAbs,h0,h1,spNNorm,hl',hm',hbn,spU64,hs1,hs2,spNDiv,hl1,hm1,hb0]
     refine ⟨n',hn1,m',bl (nl l' % nl m'),hn2,rfl,rfl,hm1,hlen,hgg⟩
    ·by_cases hs2:nl m' < 18446744073709551616
     ·have:=hs
      simp only [↓R0,R1,simprocAttr,-Int.reduceAbs,h0,h1,spNNorm,hl',hm',hbn,spU64,hs1,hs2,spNDiv,hl1,hm1,hb0]
      refine ⟨n',hn1,m',bl (nl l' % nl m'),hn2,rfl,rfl,hm1,hlen,hgg⟩
     ·have:=hs
      simp only [↓R0,R1,simprocAttr,-Int.reduceAbs,h0,h1,spNNorm,hl',hm',hbn,spU64,hs1,hs2,spNDiv,hl1,hm1,hb0]
      refine ⟨n',hn1,m',bl (nl l' % nl m'),hn2,rfl,rfl,hm1,hlen,hgg⟩
 ·(try simp only [↓R0,R1,simprocAttr,-Int.reduceAbs]) <;> rfl
 ·(try simp only [↓R0,R1,simprocAttr,-Int.reduceAbs]) <;> rfl
def spI2of:List Value -> Option Value
 | [.bool s,.string ⟨⟨l⟩⟩]=>if l.length <= 1099511627776 then some (.agg ⟨iE (sv s l)⟩) else none
 | _=>none
def c78:ICode:=
 (.seq (.reg [qq 4 (.alloc 70 2 [(.bool false),e0])]) (.seq (.reg [qq 6 (.mv (.t 1)),qq 7 (.call 103 [(.t 6)]),qq 5 (.mv (.t 7))]) (.seq (.reg [qq 8 (.mv (.t 0)),qq 9 (.mv (.t 8)),⟨(some 10),(some (9,true)),(.mv (.t 5))⟩,⟨(some 11),(some (9,true)),(.bin .neq (.t 10) (.c e0))⟩,qq 12 (.pick (.t 9) (.t 11) (.c (.bool false))),qq 13 (.mv (.t 5)),qq 14 (.build [(.bool false),e0] [(0,1,(.t 12)),(1,1,(.t 13))]),qn (.store 2 (.t 4) (.t 14))]) .ret)))
theorem tr78:trFun Tryz.prog 78=some ⟨15,[.cell 4 true 2],c78⟩:=by kernel_rfl
theorem ok_r2of:SpecOK Tryz.prog 78 (flat spI2of):=by
 refine flat_run (env_cons ok_r1Norm (env_nil _)) mixed tr78 ?_
 intro args v h N hG
 unfold spI2of at hG
 split at hG
 case h_2=>cases hG
 rename_i s l
 split at hG
 case isFalse=>cases hG
 rename_i hl
 cases hG
 refine ⟨rfl,by simp,?_⟩
 rw [iE_sv]
 simp only [c78,G0,Nat.reduceAdd]
 simp only [↓R0,R1,simprocAttr,-Int.reduceAbs,spNorm,hl]
 refine gd_case (fun hb=>?_) (fun hb=>?_)
 ·simp only [↓R0,R1,simprocAttr,-Int.reduceAbs,hb,Fin,isEnd,resL,res1]
  refine ⟨_,rfl,rfl,fun k hk=>?_⟩
  rw [if_neg (by omega),if_neg (by omega)]
 ·simp only [↓R0,R1,simprocAttr,-Int.reduceAbs,hb,Fin,isEnd,resL,res1]
  refine ⟨_,rfl,rfl,fun k hk=>?_⟩
  rw [if_neg (by omega),if_neg (by omega)]
def spI2Norm:List Value -> Option Value
 | [.agg ⟨[.bool s,.string ⟨⟨l⟩⟩]⟩]=>if l.length <= 1099511627776 then some (.agg ⟨iE (sv s l)⟩) else none
 | _=>none
def c75:ICode:=
 (.seq (.reg [qq 1 (.box 70 2 (.t 0)),qq 2 (.alloc 70 2 [(.bool false),e0])]) (.seq (.reg [qq 3 (.faddr 0 (.t 1)),qq 4 (.load false 1 (.t 3)),qq 5 (.faddr 1 (.t 1)),qq 6 (.load false 1 (.t 5)),qq 7 (.call 78 [(.t 4),(.t 6)]),qn (.store 2 (.t 2) (.t 7))]) .ret))
theorem tr75:trFun Tryz.prog 75=some ⟨8,[.cell 2 true 2],c75⟩:=by kernel_rfl
theorem ok_r2Norm:SpecOK Tryz.prog 75 (flat spI2Norm):=by
 refine flat_run (env_cons ok_r2of (env_nil _)) mixed tr75 ?_
 intro args v h N hG
 unfold spI2Norm at hG
 split at hG
 case h_2=>cases hG
 rename_i s l
 split at hG
 case isFalse=>cases hG
 rename_i hl
 cases hG
 refine ⟨rfl,by simp,?_⟩
 simp only [c75,G0,Nat.reduceAdd]
 simp only [↓R0,R1,simprocAttr,-Int.reduceAbs,spI2of,hl,iE,Fin,isEnd,resL,res1]
 refine ⟨_,rfl,rfl,fun k hk=>?_⟩
 simp only [if_neg (show ¬ N+1=k by omega),if_neg (show ¬ N+0=k by omega)]
def spI2Neg:List Value -> Option Value
 | [.agg ⟨[.bool s,.string ⟨⟨l⟩⟩]⟩]=>if l.length <= 1099511627776 then some (.agg ⟨iE (- sv s l)⟩) else none
 | _=>none
def c119:ICode:=
 (.seq (.reg [qq 1 (.box 70 2 (.t 0)),qq 2 (.alloc 70 2 [(.bool false),e0])]) (.seq (.reg [qq 3 (.faddr 0 (.t 1)),qq 4 (.load false 1 (.t 3)),qq 5 (.un .not (.t 4)),qq 6 (.faddr 1 (.t 1)),qq 7 (.load false 1 (.t 6)),qq 8 (.call 78 [(.t 5),(.t 7)]),qn (.store 2 (.t 2) (.t 8))]) .ret))
theorem tr119:trFun Tryz.prog 119=some ⟨9,[.cell 2 true 2],c119⟩:=by kernel_rfl
theorem ok_r2Neg:SpecOK Tryz.prog 119 (flat spI2Neg):=by
 refine flat_run (env_cons ok_r2of (env_nil _)) mixed tr119 ?_
 intro args v h N hG
 unfold spI2Neg at hG
 split at hG
 case h_2=>cases hG
 rename_i s l
 split at hG
 case isFalse=>cases hG
 rename_i hl
 cases hG
 refine ⟨rfl,by simp,?_⟩
 rw [<- sv_neg]
 simp only [c119,G0,Nat.reduceAdd]
 simp only [↓R0,R1,simprocAttr,-Int.reduceAbs,spI2of,hl,iE,Fin,isEnd,resL,res1]
 refine ⟨_,rfl,rfl,fun k hk=>?_⟩
 simp only [if_neg (show ¬ N+1=k by omega),if_neg (show ¬ N+0=k by omega)]
def spI2Sign:List Value -> Option Value
 | [.agg ⟨[.bool s,.string ⟨⟨l⟩⟩]⟩]=>if l.length <= 1099511627776 then some (.int .i64 (sv s l).sign) else none
 | _=>none
def c101:ICode:=
 (.seq (.reg [qq 1 (.box 70 2 (.t 0)),qq 2 (.mv (ci 0))]) (.seq (.seq (.reg [qq 3 (.faddr 1 (.t 1)),qq 4 (.load false 1 (.t 3)),qq 5 (.call 103 [(.t 4)]),qq 6 (.bin .eql (.t 5) (.c e0))]) (.cond (.t 6) (.seq (.reg [qq 2 (.mv (ci 0))]) .ret) .skip)) (.seq (.seq (.reg [qq 7 (.faddr 0 (.t 1)),qq 8 (.load false 1 (.t 7))]) (.cond (.t 8) (.seq (.reg [qq 2 (.mv (ci (-1)))]) .ret) .skip)) (.seq (.reg [qq 2 (.mv (ci 1))]) .ret))))
theorem tr101:trFun Tryz.prog 101=some ⟨9,[.t 2],c101⟩:=by kernel_rfl
theorem ok_r2Sign:SpecOK Tryz.prog 101 (flat spI2Sign):=by
 refine flat_run (env_cons ok_r1Norm (env_nil _)) mixed tr101 ?_
 intro args v h N hG
 unfold spI2Sign at hG
 split at hG
 case h_2=>cases hG
 rename_i s l
 split at hG
 case isFalse=>cases hG
 rename_i hl
 cases hG
 refine ⟨rfl,by simp,?_⟩
 rw [sgn_sv]
 simp only [c101,G0,Nat.reduceAdd]
 simp only [↓R0,R1,simprocAttr,-Int.reduceAbs,spNorm,hl,bl_eq_nil]
 refine cd_case (fun hb=>?_) (fun hb=>?_)
 ·have hb':nl l=0:=by simpa using hb
  rw [if_pos hb']
  simp only [↓R0,R1,simprocAttr,-Int.reduceAbs]
  exact fin_t trivial rfl (fun k hk=>by rw [hget_new hk])
 ·have hb':¬ nl l=0:=by simpa using hb
  rw [if_neg hb']
  simp only [↓R0,R1,simprocAttr,-Int.reduceAbs]
  cases s
  ·simp only [↓R0,R1,simprocAttr,-Int.reduceAbs]
   exact fin_t trivial rfl (fun k hk=>by rw [hget_new hk])
  ·simp only [↓R0,R1,simprocAttr,-Int.reduceAbs]
   exact fin_t trivial rfl (fun k hk=>by rw [hget_new hk])
def spI2From:List Value -> Option Value
 | [.int .i64 n]=>if -9223372036854775808 <= n /\ n <= 9223372036854775807 then some (.agg ⟨iE n⟩) else none
 | _=>none
def c47:ICode:=
 (.seq (.reg [qq 2 (.alloc 70 2 [(.bool false),e0])]) (.seq (.seq (.reg [qq 3 (.mv (.t 0)),qq 4 (.bin .lss (.t 3) (ci 0))]) (.cond (.t 4) (.seq (.reg [qq 5 (.mv (.t 0)),qq 6 (.bin .add (.t 5) (ci 1)),qq 7 (.un .neg (.t 6)),qq 8 (.conv .u64 (.t 7)),qq 9 (.bin .add (.t 8) (.c (.int .u64 1))),qq 10 (.call 82 [(.t 9)]),qq 11 (.call 78 [(.c (.bool true)),(.t 10)]),qn (.store 2 (.t 2) (.t 11))]) .ret) .skip)) (.seq (.reg [qq 12 (.mv (.t 0)),qq 13 (.conv .u64 (.t 12)),qq 14 (.call 82 [(.t 13)]),qq 15 (.call 78 [(.c (.bool false)),(.t 14)]),qn (.store 2 (.t 2) (.t 15))]) .ret)))
theorem tr47:trFun Tryz.prog 47=some ⟨16,[.cell 2 true 2],c47⟩:=by kernel_rfl
theorem ok_r2From:SpecOK Tryz.prog 47 (flat spI2From):=by
 refine flat_run (env_cons ok_r2of (env_cons ok_r1Of (env_nil _))) mixed tr47 ?_
 intro args v h N hG
 unfold spI2From at hG
 split at hG
 case h_2=>cases hG
 rename_i n
 split at hG
 case isFalse=>cases hG
 rename_i hl
 cases hG
 refine ⟨rfl,by simp,?_⟩
 have hlen:(bl n.natAbs).length <= 1099511627776:=Nat.le_trans (bl_length_le (k:=8).2 (by omega)) (by omega)
 simp only [c47,G0,Nat.reduceAdd]
 simp only [↓R0,R1,simprocAttr,-Int.reduceAbs]
 refine cd_case (fun hb=>?_) (fun hb=>?_)
 ·have hn:n < 0:=by simpa using hb
  have hz:sv true (bl n.natAbs)=n:=by rw [sv_true,nl_bl];omega
  have e1:IntKind.i64.wrap (n+1)=n+1:=by rw [i64_in _ (by omega)]
  have e2:IntKind.i64.wrap (0 - (n+1))=(n.natAbs:Int) - 1:=by rw [i64_in _ (by omega)];omega
  have e3:IntKind.u64.wrap ((n.natAbs:Int) - 1)=(n.natAbs:Int) - 1:=by rw [u64_in _ (by omega)]
  have e4:IntKind.u64.wrap ((n.natAbs:Int) - 1+1)=(n.natAbs:Int):=by rw [u64_in _ (by omega)];omega
  have e5:(n.natAbs:Int) <= 18446744073709551615:=by omega
  simp only [↓R0,R1,simprocAttr,-Int.reduceAbs,e1,e2,e3,e4,e5,spOf,spI2of,hlen,iE,hz,Fin,isEnd,resL,res1]
  refine ⟨_,rfl,?_,fun k hk=>?_⟩
  ·rfl
  ·rw [if_neg (by omega),if_neg (by omega)]
 ·have hn:0 <= n:=by simpa using hb
  have hz:sv false (bl n.natAbs)=n:=by rw [sv_false,nl_bl];omega
  have e3:IntKind.u64.wrap n=(n.natAbs:Int):=by rw [u64_in _ (by omega)];omega
  have e5:(n.natAbs:Int) <= 18446744073709551615:=by omega
  simp only [↓R0,R1,simprocAttr,-Int.reduceAbs,e3,e5,spOf,spI2of,hlen,iE,hz,Fin,isEnd,resL,res1]
  refine ⟨_,rfl,?_,fun k hk=>?_⟩
  ·rfl
  ·rw [if_neg (by omega),if_neg (by omega)]
def spI2Add:List Value -> Option Value
 | [.agg ⟨[.bool s,.string ⟨⟨l⟩⟩]⟩,.agg ⟨[.bool t,.string ⟨⟨m⟩⟩]⟩]=>if l.length <= 549755813888 /\ m.length <= 549755813888 then some (.agg ⟨iE (sv s l+sv t m)⟩) else none
 | _=>none
def c43:ICode:=
 (.seq (.reg [qq 2 (.box 70 2 (.t 0)),qq 3 (.box 70 2 (.t 1)),qq 4 (.alloc 70 2 [(.bool false),e0])]) (.seq (.seq (.reg [qq 7 (.faddr 0 (.t 2)),qq 8 (.load false 1 (.t 7)),qq 9 (.faddr 0 (.t 3)),qq 10 (.load false 1 (.t 9)),qq 11 (.eqb false (.t 8) (.t 10))]) (.cond (.t 11) (.seq (.dreg [qu 12 (.faddr 0 (.t 2)),qu 13 (.load false 1 (.t 12)),qu 14 (.faddr 1 (.t 2)),qu 15 (.load false 1 (.t 14)),qu 16 (.faddr 1 (.t 3)),qu 17 (.load false 1 (.t 16)),qu 18 (.call 79 [(.t 15),(.t 17)]),qu 19 (.call 78 [(.t 13),(.t 18)]),qm (.store 2 (.t 4) (.t 19))]) .ret) .skip)) (.seq (.reg [qq 21 (.faddr 1 (.t 2)),qq 22 (.load false 1 (.t 21)),qq 23 (.faddr 1 (.t 3)),qq 24 (.load false 1 (.t 23)),qq 25 (.call 80 [(.t 22),(.t 24)]),qq 20 (.mv (.t 25)),qq 26 (.ext (.t 20) 0),qq 27 (.ext (.t 20) 1),qq 5 (.mv (.t 26)),qq 6 (.mv (.t 27))]) (.seq (.seq (.reg [qq 28 (.mv (.t 6))]) (.cond (.t 28) (.seq (.reg [qq 29 (.faddr 0 (.t 2)),qq 30 (.load false 1 (.t 29)),qq 31 (.mv (.t 5)),qq 32 (.call 78 [(.t 30),(.t 31)]),qn (.store 2 (.t 4) (.t 32))]) .ret) .skip)) (.seq (.reg [qq 34 (.faddr 1 (.t 3)),qq 35 (.load false 1 (.t 34)),qq 36 (.faddr 1 (.t 2)),qq 37 (.load false 1 (.t 36)),qq 38 (.call 80 [(.t 35),(.t 37)]),qq 33 (.mv (.t 38)),qq 39 (.ext (.t 33) 0),qq 40 (.ext (.t 33) 1),qq 5 (.mv (.t 39))]) (.seq (.reg [qq 41 (.faddr 0 (.t 3)),qq 42 (.load false 1 (.t 41)),qq 43 (.mv (.t 5)),qq 44 (.call 78 [(.t 42),(.t 43)]),qn (.store 2 (.t 4) (.t 44))]) .ret))))))
theorem tr43:trFun Tryz.prog 43=some ⟨45,[.cell 4 true 2],c43⟩:=by kernel_rfl
theorem ok_r2Add:SpecOK Tryz.prog 43 (flat spI2Add):=by
 refine flat_run (env_cons ok_r2of (env_cons ok_r1Add (env_cons ok_r1Sub (env_nil _)))) mixed tr43 ?_
 intro args v h N hG
 unfold spI2Add at hG
 split at hG
 case h_2=>cases hG
 rename_i s l t m
 split at hG
 case isFalse=>cases hG
 rename_i hl
 obtain ⟨hl,hm⟩:=hl
 cases hG
 refine ⟨rfl,by simp,?_⟩
 have la:=bl_length_nl l
 have lb:=bl_length_nl m
 have ls:(bl (nl l+nl m)).length <= 1099511627776:=Nat.le_trans (bl_length_add (k:=max l.length m.length) (by omega) (by omega)) (by omega)
 have ld1:(bl (nl l - nl m)).length <= 1099511627776:=Nat.le_trans (bl_length_mono (Nat.sub_le _ _)) (by omega)
 have ld2:(bl (nl m - nl l)).length <= 1099511627776:=Nat.le_trans (bl_length_mono (Nat.sub_le _ _)) (by omega)
 by_cases hst:s=t
 ·subst hst
  have hz:sv s l+sv s m=sv s (bl (nl l+nl m)):=by rw [sv_bl];cases s <;> simp [sv] <;> omega
  rw [hz]
  simp only [c43,G0,Nat.reduceAdd]
  simp only [↓R0,R1,simprocAttr,-Int.reduceAbs,spAdd,spI2of,hl,hm,ls,iE,Fin,isEnd,resL,res1]
  refine ⟨_,rfl,rfl,fun k hk=>?_⟩
  simp only [if_neg (show ¬ N+2=k by omega),if_neg (show ¬ N+1=k by omega),if_neg (show ¬ N+0=k by omega)]
 ·by_cases hlt:nl l < nl m
  ·have hlt2:¬ nl m < nl l:=by omega
   have hz:sv s l+sv t m=sv t (bl (nl m - nl l)):=by rw [sv_bl];cases s <;> cases t <;> simp [sv] at hst ⊢ <;> omega
   rw [hz]
   simp only [c43,G0,Nat.reduceAdd]
   simp only [↓R0,R1,simprocAttr,-Int.reduceAbs,hst,spSub,spI2of,hl,hm,hlt,hlt2,ld2,iE,Fin,isEnd,resL,res1]
   refine ⟨_,rfl,rfl,fun k hk=>?_⟩
   simp only [if_neg (show ¬ N+2=k by omega),if_neg (show ¬ N+1=k by omega),if_neg (show ¬ N+0=k by omega)]
  ·have hz:sv s l+sv t m=sv s (bl (nl l - nl m)):=by rw [sv_bl];cases s <;> cases t <;> simp [sv] at hst ⊢ <;> omega
   rw [hz]
   simp only [c43,G0,Nat.reduceAdd]
   simp only [↓R0,R1,simprocAttr,-Int.reduceAbs,hst,spSub,spI2of,hl,hm,hlt,ld1,iE,Fin,isEnd,resL,res1]
   refine ⟨_,rfl,rfl,fun k hk=>?_⟩
   simp only [if_neg (show ¬ N+2=k by omega),if_neg (show ¬ N+1=k by omega),if_neg (show ¬ N+0=k by omega)]
def spI2Sub:List Value -> Option Value
 | [.agg ⟨[.bool s,.string ⟨⟨l⟩⟩]⟩,.agg ⟨[.bool t,.string ⟨⟨m⟩⟩]⟩]=>if l.length <= 549755813888 /\ m.length <= 549755813888 then some (.agg ⟨iE (sv s l - sv t m)⟩) else none
 | _=>none
def c102:ICode:=
 (.seq (.reg [qq 2 (.box 70 2 (.t 0)),qq 3 (.box 70 2 (.t 1)),qq 4 (.alloc 70 2 [(.bool false),e0])]) (.seq (.dreg [qu 5 (.load true 2 (.t 2)),qu 6 (.load true 2 (.t 3)),qu 7 (.call 119 [(.t 6)]),qu 8 (.call 43 [(.t 5),(.t 7)]),qm (.store 2 (.t 4) (.t 8))]) .ret))
theorem tr102:trFun Tryz.prog 102=some ⟨9,[.cell 4 true 2],c102⟩:=by kernel_rfl
theorem ok_r2Sub:SpecOK Tryz.prog 102 (flat spI2Sub):=by
 refine flat_run (env_cons ok_r2Neg (env_cons ok_r2Add (env_nil _))) mixed tr102 ?_
 intro args v h N hG
 unfold spI2Sub at hG
 split at hG
 case h_2=>cases hG
 rename_i s l t m
 split at hG
 case isFalse=>cases hG
 rename_i hl
 obtain ⟨hl,hm⟩:=hl
 cases hG
 refine ⟨rfl,by simp,?_⟩
 have hm2:m.length <= 1099511627776:=by omega
 have hn:(bl (-sv t m).natAbs).length <= 549755813888:=by rw [Int.natAbs_neg,sv_natAbs];exact Nat.le_trans (bl_length_nl m) hm
 rw [Int.sub_eq_add_neg]
 simp only [c102,G0,Nat.reduceAdd]
 simp only [↓R0,R1,simprocAttr,-Int.reduceAbs,spI2Neg,spI2Add,iE,hl,hm2,hn,Fin,isEnd,resL,res1]
 refine ⟨_,rfl,rfl,fun k hk=>?_⟩
 simp only [if_neg (show ¬ N+2=k by omega),if_neg (show ¬ N+1=k by omega),if_neg (show ¬ N+0=k by omega)]
def spI2Mul:List Value -> Option Value
 | [.agg ⟨[.bool s,.string ⟨⟨l⟩⟩]⟩,.agg ⟨[.bool t,.string ⟨⟨m⟩⟩]⟩]=>if l.length+m.length <= 274877906944 then some (.agg ⟨iE (sv s l * sv t m)⟩) else none
 | _=>none
def c44:ICode:=
 (.seq (.reg [qq 2 (.box 70 2 (.t 0)),qq 3 (.box 70 2 (.t 1)),qq 4 (.alloc 70 2 [(.bool false),e0])]) (.seq (.dreg [qu 5 (.faddr 0 (.t 2)),qu 6 (.load false 1 (.t 5)),qu 7 (.faddr 0 (.t 3)),qu 8 (.load false 1 (.t 7)),qu 9 (.eqb true (.t 6) (.t 8)),qu 10 (.faddr 1 (.t 2)),qu 11 (.load false 1 (.t 10)),qu 12 (.faddr 1 (.t 3)),qu 13 (.load false 1 (.t 12)),qu 14 (.call 81 [(.t 11),(.t 13)]),qu 15 (.call 78 [(.t 9),(.t 14)]),qm (.store 2 (.t 4) (.t 15))]) .ret))
theorem tr44:trFun Tryz.prog 44=some ⟨16,[.cell 4 true 2],c44⟩:=by kernel_rfl
theorem sv_mul (s t:Bool) (l m:List UInt8):sv (decide (s ≠ t)) (bl (nl l * nl m))=sv s l * sv t m:=by
 rw [sv_bl]
 cases s <;> cases t <;> simp [sv,Int.neg_mul,Int.mul_neg]
theorem ok_r2Mul:SpecOK Tryz.prog 44 (flat spI2Mul):=by
 refine flat_run (env_cons ok_r2of (env_cons ok_r1Mul (env_nil _))) mixed tr44 ?_
 intro args v h N hG
 unfold spI2Mul at hG
 split at hG
 case h_2=>cases hG
 rename_i s l t m
 split at hG
 case isFalse=>cases hG
 rename_i hl
 cases hG
 refine ⟨rfl,by simp,?_⟩
 have la:=bl_length_nl l
 have lb:=bl_length_nl m
 have hp:(bl (nl l * nl m)).length <= 1099511627776:=Nat.le_trans (bl_length_mul _ _) (by omega)
 have hz:=sv_mul s t l m
 simp only [ne_eq] at hz
 simp only [c44,G0,Nat.reduceAdd]
 simp only [↓R0,R1,simprocAttr,-Int.reduceAbs,spMul,spI2of,iE,hl,hp,hz,Fin,isEnd,resL,res1]
 refine ⟨_,rfl,rfl,fun k hk=>?_⟩
 simp only [if_neg (show ¬ N+2=k by omega),if_neg (show ¬ N+1=k by omega),if_neg (show ¬ N+0=k by omega)]
def spI2Div:List Value -> Option Value
 | [.agg ⟨[.bool s,.string ⟨⟨l⟩⟩]⟩,.agg ⟨[.bool t,.string ⟨⟨m⟩⟩]⟩]=>if l.length <= 68719476736 /\ m.length <= 68719476736 then
   (if nl m=0 then some (.tuple ⟨[.agg ⟨[.bool false,.string ⟨⟨[]⟩⟩]⟩,.agg ⟨[.bool false,.string ⟨⟨[]⟩⟩]⟩,.bool false]⟩) else
    some (.tuple ⟨[.agg ⟨iE (sv s l / sv t m)⟩,.agg ⟨iE (sv s l % sv t m)⟩,.bool true]⟩)) else none
 | _=>none
def c77:ICode:=
 (.seq (.reg [qq 2 (.box 70 2 (.t 0)),qq 3 (.box 70 2 (.t 1)),qq 4 (.alloc 70 2 [(.bool false),e0]),qq 5 (.alloc 70 2 [(.bool false),e0]),qq 6 (.mv (.c (.bool false)))]) (.seq (.reg [qq 13 (.faddr 1 (.t 2)),qq 14 (.load false 1 (.t 13)),qq 15 (.faddr 1 (.t 3)),qq 16 (.load false 1 (.t 15)),qq 17 (.call 100 [(.t 14),(.t 16)]),qq 12 (.mv (.t 17)),qq 18 (.ext (.t 12) 0),qq 19 (.ext (.t 12) 1),qq 20 (.ext (.t 12) 2),qq 7 (.mv (.t 18)),qq 8 (.mv (.t 19)),qq 9 (.mv (.t 20))]) (.seq (.seq (.reg [qq 21 (.mv (.t 9)),qq 22 (.un .not (.t 21))]) (.cond (.t 22) (.seq (.reg [qq 23 (.build [(.bool false),e0] []),qq 24 (.build [(.bool false),e0] []),qn (.store 2 (.t 4) (.t 23)),qn (.store 2 (.t 5) (.t 24)),qq 6 (.mv (.c (.bool false)))]) .ret) .skip)) (.seq (.reg [qq 25 (.faddr 0 (.t 2)),qq 26 (.load false 1 (.t 25)),qq 27 (.mv (.t 8)),qq 28 (.call 78 [(.t 26),(.t 27)]),qq 10 (.alloc 70 2 [(.bool false),e0]),qn (.store 2 (.t 10) (.t 28))]) (.seq (.reg [qq 29 (.faddr 0 (.t 2)),qq 30 (.load false 1 (.t 29)),qq 31 (.faddr 0 (.t 3)),qq 32 (.load false 1 (.t 31)),qq 33 (.eqb true (.t 30) (.t 32)),qq 34 (.mv (.t 7)),qq 35 (.call 78 [(.t 33),(.t 34)]),qq 11 (.alloc 70 2 [(.bool false),e0]),qn (.store 2 (.t 11) (.t 35))]) (.seq (.seq (.reg [qq 36 (.load true 2 (.t 10)),qq 37 (.call 101 [(.t 36)]),qq 38 (.bin .lss (.t 37) (ci 0))]) (.cond (.t 38) (.seq (.dreg [qu 39 (.load true 2 (.t 10)),qu 40 (.faddr 1 (.t 3)),qu 41 (.load false 1 (.t 40)),qu 42 (.call 78 [(.c (.bool false)),(.t 41)]),qu 43 (.call 43 [(.t 39),(.t 42)]),qm (.store 2 (.t 10) (.t 43))]) (.seq (.reg [qq 44 (.load true 2 (.t 3)),qq 45 (.call 101 [(.t 44)]),qq 46 (.bin .gtr (.t 45) (ci 0))]) (.cond (.t 46) (.dreg [qu 47 (.load true 2 (.t 11)),qu 48 (.call 47 [(ci 1)]),qu 49 (.call 102 [(.t 47),(.t 48)]),qm (.store 2 (.t 11) (.t 49))]) (.dreg [qu 50 (.load true 2 (.t 11)),qu 51 (.call 47 [(ci 1)]),qu 52 (.call 43 [(.t 50),(.t 51)]),qm (.store 2 (.t 11) (.t 52))])))) .skip)) (.seq (.dreg [qu 53 (.load true 2 (.t 11)),qu 54 (.load true 2 (.t 10)),⟨none,none,[1001],(.store 2 (.t 4) (.t 53))⟩,qm (.store 2 (.t 5) (.t 54)),qu 6 (.mv (.c (.bool true)))]) .ret)))))))
theorem tr77:trFun Tryz.prog 77=some ⟨55,[.cell 4 true 2,.cell 5 true 2,.t 6],c77⟩:=by kernel_rfl
theorem sv_div {s t:Bool} {l m:List UInt8} (hm:nl m ≠ 0) :
  (s=false \/ nl l % nl m=0 -> sv s l / sv t m=sv (decide (s ≠ t)) (bl (nl l / nl m)) /\ sv s l % sv t m=sv s (bl (nl l % nl m))) /\
  (s=true -> nl l % nl m ≠ 0 -> sv s l % sv t m=sv s (bl (nl l % nl m))+sv false (bl (nl m)) /\
   sv s l / sv t m=if t then sv (decide (s ≠ t)) (bl (nl l / nl m))+1 else sv (decide (s ≠ t)) (bl (nl l / nl m)) - 1):=by
 have hd:=Nat.div_add_mod (nl l) (nl m)
 have hr:=Nat.mod_lt (nl l) (Nat.pos_of_ne_zero hm)
 simp only [sv_bl]
 generalize nl l / nl m=q at *
 generalize nl l % nl m=r at *
 generalize hL:nl l=L at *
 generalize hM:nl m=M at *
 have hdi:(M:Int) * (q:Int)+(r:Int)=(L:Int):=by rw [<- hd];simp
 have pos:∀ A Q R:Int,R+(M:Int) * Q=A -> 0 <= R -> R < M -> A / (M:Int)=Q /\ A % (M:Int)=R:=fun A Q R h1 h2 h3=>(Int.ediv_emod_unique (by omega)).2 ⟨h1,h2,h3⟩
 have neg:∀ A Q R:Int,R+-(M:Int) * Q=A -> 0 <= R -> R < M -> A / -(M:Int)=Q /\ A % -(M:Int)=R:=by
  intro A Q R h1 h2 h3
  have:=pos A (-Q) R (by rw [Int.mul_neg,<- Int.neg_mul];exact h1) h2 h3
  rw [Int.ediv_neg,Int.emod_neg,this.1,this.2]
  simp
 have e1:(M:Int) * (-(q:Int))=-((M:Int) * (q:Int)):=by rw [Int.mul_neg]
 have e2:-(M:Int) * (q:Int)=-((M:Int) * (q:Int)):=by rw [Int.neg_mul]
 have e3:-(M:Int) * (-(q:Int))=((M:Int) * (q:Int)):=by rw [Int.neg_mul,Int.mul_neg];simp
 constructor
 ·intro h
  cases s <;> cases t <;> simp only [sv,hL,hM,ne_eq,reduceCtorEq,not_true_eq_false,not_false_eq_true,decide_true,decide_false,if_true,if_false,Bool.false_eq_true]
  ·exact pos _ _ _ (by omega) (by omega) (by omega)
  ·exact neg _ _ _ (by omega) (by omega) (by omega)
  ·have:r=0:=by simpa using h
   exact pos _ _ _ (by omega) (by omega) (by omega)
  ·have:r=0:=by simpa using h
   exact neg _ _ _ (by omega) (by omega) (by omega)
 ·intro hs h
  subst hs
  cases t <;> simp only [sv,hL,hM,ne_eq,reduceCtorEq,not_true_eq_false,not_false_eq_true,decide_true,decide_false,if_true,if_false,Bool.false_eq_true]
  ·have:=pos (-(L:Int)) (-(q:Int) - 1) (-(r:Int)+M) (by rw [Int.mul_sub,e1];omega) (by omega) (by omega)
   exact ⟨this.2,this.1⟩
  ·have:=neg (-(L:Int)) ((q:Int)+1) (-(r:Int)+M) (by rw [Int.mul_add,e2];omega) (by omega) (by omega)
   exact ⟨this.2,this.1⟩
theorem ok_r2Div:SpecOK Tryz.prog 77 (flat spI2Div):=by
 refine flat_run (env_cons ok_r2of (env_cons ok_r1Div (env_cons ok_r2Sign (env_cons ok_r2Add (env_cons ok_r2Sub (env_cons ok_r2From (env_nil _))))))) mixed tr77 ?_
 intro args v h N hG
 unfold spI2Div at hG
 split at hG
 case h_2=>cases hG
 rename_i s l t m
 split at hG
 case isFalse=>cases hG
 rename_i hl
 obtain ⟨hl,hm⟩:=hl
 split at hG
 ·rename_i h0
  cases hG
  refine ⟨rfl,by simp,?_⟩
  simp only [c77,G0,Nat.reduceAdd]
  simp only [↓R0,R1,simprocAttr,-Int.reduceAbs,spDiv,hl,hm,h0,Bool.not_false,Fin,isEnd,resL,res1]
  refine ⟨_,rfl,rfl,fun k hk=>?_⟩
  simp only [if_neg (show ¬ N+3=k by omega),if_neg (show ¬ N+2=k by omega),if_neg (show ¬ N+1=k by omega),if_neg (show ¬ N+0=k by omega)]
 rename_i h0
 cases hG
 refine ⟨rfl,by simp,?_⟩
 have la:=bl_length_nl l
 have lb:=bl_length_nl m
 have q1:(bl (nl l / nl m)).length <= 68719476736:=Nat.le_trans (bl_length_mono (Nat.div_le_self _ _)) (by omega)
 have r1:(bl (nl l % nl m)).length <= 68719476736:=Nat.le_trans (bl_length_mono (Nat.mod_le _ _)) (by omega)
 have q2:(bl (nl l / nl m)).length <= 1099511627776:=by omega
 have r2:(bl (nl l % nl m)).length <= 1099511627776:=by omega
 have m2:m.length <= 1099511627776:=by omega
 have X1:(bl (sv s (bl (nl l % nl m))).natAbs).length <= 1099511627776:=by rw [sv_natAbs,nl_bl];omega
 have X2:(bl (sv s (bl (nl l % nl m))).natAbs).length <= 549755813888:=by rw [sv_natAbs,nl_bl];omega
 have M2:(bl (sv false m).natAbs).length <= 549755813888:=by rw [sv_natAbs];omega
 have Y2:(bl (sv (decide (s ≠ t)) (bl (nl l / nl m))).natAbs).length <= 549755813888:=by rw [sv_natAbs,nl_bl];omega
 simp only [ne_eq] at Y2
 have o1:sv false (bl (Int.natAbs 1))=1:=by rw [sv_false,nl_bl];rfl
 have o2:(bl (Int.natAbs 1)).length <= 549755813888:=Nat.le_trans (bl_length_le (k:=1).2 (by decide)) (by omega)
 obtain ⟨d1,d2⟩:=sv_div (s:=s) (t:=t) (l:=l) (m:=m) h0
 simp only [ne_eq] at d1 d2
 by_cases hc:s=false \/ nl l % nl m=0
 ·have hs:¬ (sv s (bl (nl l % nl m))).sign < 0:=by
   rw [sgn_sv,nl_bl]
   rcases hc with hc | hc
   ·subst hc;split <;> simp
   ·rw [if_pos hc];simp
  obtain ⟨d3,d4⟩:=d1 hc
  rw [d3,d4]
  simp only [c77,G0,Nat.reduceAdd]
  simp only [↓R0,R1,simprocAttr,-Int.reduceAbs,spDiv,spI2of,spI2Sign,iE,hl,hm,h0,q2,r2,X1,hs,Bool.not_true,Fin,isEnd,resL,res1]
  refine ⟨_,rfl,rfl,fun k hk=>?_⟩
  simp only [if_neg (show ¬ N+5=k by omega),if_neg (show ¬ N+4=k by omega),if_neg (show ¬ N+3=k by omega),if_neg (show ¬ N+2=k by omega),if_neg (show ¬ N+1=k by omega),if_neg (show ¬ N+0=k by omega)]
 ·have hs1:s=true:=by
   cases s
   ·simp at hc
   ·rfl
  have hr0:nl l % nl m ≠ 0:=fun e=>hc (.inr e)
  have hs:(sv s (bl (nl l % nl m))).sign < 0:=by
   rw [sgn_sv,nl_bl,if_neg hr0,hs1];simp
  obtain ⟨d3,d4⟩:=d2 hs1 hr0
  have hfm:sv false (bl (nl m))=sv false m:=by rw [sv_false,nl_bl];rfl
  rw [d3,d4,hfm]
  have ht:(sv t m).sign > 0 ↔ t=false:=by
   rw [sgn_sv,if_neg h0]
   cases t <;> simp
  cases t
  ·have ht':(sv false m).sign > 0:=ht.2 rfl
   simp only [c77,G0,Nat.reduceAdd]
   simp only [↓R0,R1,simprocAttr,-Int.reduceAbs,spDiv,spI2of,spI2Sign,spI2Add,spI2From,spI2Sub,iE,hl,hm,h0,q2,r2,m2,X1,X2,M2,Y2,o1,o2,hs,ht',Bool.not_true,Fin,isEnd,resL,res1]
   refine ⟨_,rfl,rfl,fun k hk=>?_⟩
   simp only [if_neg (show ¬ N+5=k by omega),if_neg (show ¬ N+4=k by omega),if_neg (show ¬ N+3=k by omega),if_neg (show ¬ N+2=k by omega),if_neg (show ¬ N+1=k by omega),if_neg (show ¬ N+0=k by omega)]
  ·have ht':¬ (sv true m).sign > 0:=fun e=>by have:=ht.1 e;cases this
   simp only [c77,G0,Nat.reduceAdd]
   simp only [↓R0,R1,simprocAttr,-Int.reduceAbs,spDiv,spI2of,spI2Sign,spI2Add,spI2From,iE,hl,hm,h0,q2,r2,m2,X1,X2,M2,Y2,o1,o2,hs,ht',Bool.not_true,Fin,isEnd,resL,res1]
   refine ⟨_,rfl,rfl,fun k hk=>?_⟩
   simp only [if_neg (show ¬ N+5=k by omega),if_neg (show ¬ N+4=k by omega),if_neg (show ¬ N+3=k by omega),if_neg (show ¬ N+2=k by omega),if_neg (show ¬ N+1=k by omega),if_neg (show ¬ N+0=k by omega)]
def ints:List Value -> Option (List (Bool × List UInt8))
 | []=>some []
 | .bool s :: .string ⟨⟨l⟩⟩ :: r=>(ints r).map ((s,l) :: ·)
 | _=>none
theorem ints_get:∀ (zs:List (Bool × List UInt8)) {cells:List Value},ints cells=some zs -> ∀ (i:Nat) s l,zs[i]?=some (s,l) -> cells[i * 2]?=some (.bool s) /\ cells[i * 2+1]?=some (.string ⟨⟨l⟩⟩)
 | [],cells,h,i,s,l,hi=>by simp at hi
 | z :: zs,cells,h,i,s,l,hi=>by
  unfold ints at h
  split at h
  ·cases h
  ·rename_i s' l' r
   simp only [Option.map_eq_some_iff] at h
   obtain ⟨zs',h1,h2⟩:=h
   cases h2
   cases i with
   | zero=>simp at hi;obtain ⟨rfl,rfl⟩:=hi;simp
   | succ i=>
    have:=ints_get zs h1 i s l (by simpa using hi)
    have e:(i+1) * 2=i * 2+2:=by omega
    rw [e]
    simpa using this
  ·cases h
def gcds (zs:List (Bool × List UInt8)):Nat:=zs.foldl (fun g z=>Nat.gcd g (nl z.2)) 0
def spI2Gcd:List Value -> Heap -> Option Value
 | [.slice (some ⟨k,0,none⟩) len _],h=>match hget h k with
  | some blk=>match ints blk.cells with
   | some zs=>if len <= zs.length /\ len <= 1000 /\ (∀ z ∈ zs,z.2.length <= 68719476736) then some (.agg ⟨iE (gcds (zs.take len):Int)⟩) else none
   | none=>none
  | none=>none
 | _,_=>none
def c76:ICode:=
 (.seq (.reg [qq 2 (.alloc 70 2 [(.bool false),e0])]) (.seq (.reg [qq 3 (.mv (.c e0))]) (.seq (.seq (.reg [qq 4 (.mv (ci 0))]) (.block 0 (.loop (.seq (.seq (.reg [qq 5 (.mv (.t 4)),qq 6 (.mv (.t 0)),qq 7 (.lensl (.t 6)),qq 8 (.bin .lss (.t 5) (.t 7))]) (.cond (.t 8) .skip (.exit 0))) (.seq (.block 1 (.reg [qq 11 (.mv (.t 3)),qq 12 (.mv (.t 0)),qq 13 (.mv (.t 4)),qq 14 (.ixsl 2 (.t 12) (.t 13)),qq 15 (.faddr 1 (.t 14)),qq 16 (.load false 1 (.t 15)),qq 17 (.call 99 [(.t 11),(.t 16)]),qq 3 (.mv (.t 17))])) (.reg [qq 9 (.mv (.t 4)),qq 10 (.bin .add (.t 9) (ci 1)),qq 4 (.mv (.t 10))])))))) (.seq (.reg [qq 18 (.mv (.t 3)),qq 19 (.call 78 [(.c (.bool false)),(.t 18)]),qn (.store 2 (.t 2) (.t 19))]) .ret))))
theorem tr76:trFun Tryz.prog 76=some ⟨20,[.cell 2 true 2],c76⟩:=by kernel_rfl
theorem ok_r2Gcd:SpecOK Tryz.prog 76 (rdS spI2Gcd):=by
 refine rd_run (env_cons ok_r2of (env_cons ok_r1Gcd (env_nil _))) mixed tr76 ?_ ?_
 ·intro args h h' v hle e
  unfold spI2Gcd at e ⊢
  split at e
  ·rename_i k len c
   split at e
   ·rename_i blk hb
    simp only [hle _ _ hb];exact e
   ·cases e
  ·cases e
 intro args v h N hG hN
 unfold spI2Gcd at hG
 split at hG
 case h_2=>cases hG
 rename_i k len c
 split at hG
 case h_2=>cases hG
 rename_i blk hb
 split at hG
 case h_2=>cases hG
 rename_i zs hz
 split at hG
 case isFalse=>cases hG
 rename_i hl
 obtain ⟨hl1,hl2,hl3⟩:=hl
 cases hG
 have hk:=hN _ _ hb
 have hne:¬ (N+0=k):=by omega
 refine ⟨rfl,by simp,?_⟩
 simp only [c76,G0,Nat.reduceAdd]
 simp only [↓R0,R1,simprocAttr,-Int.reduceAbs]
 refine lp_parts (fun n tm hp nx=>∃ (i:Nat),n+i=len /\ tmget tm 0 = .slice (some ⟨k,0,none⟩) len c /\ tmget tm 4 = .int .i64 i /\ tmget tm 3 = .string ⟨⟨bl (gcds (zs.take i))⟩⟩ /\
   tmget tm 2 = .pointer (some ⟨N+0,0,none⟩) /\ hp=(N+0,some ⟨70,2,true,[.bool false,.string ⟨⟨[]⟩⟩]⟩) :: h /\ (bl (gcds (zs.take i))).length <= 68719476736) ?_ len
  ⟨0,by omega,?_,?_,?_,?_,rfl,?_⟩
 ·intro n tm hp nx ⟨i,hn,t0,t4,t3,t2,hh,hg⟩
  subst hh
  by_cases c1:i < len
  ·obtain ⟨⟨s,l⟩,hi⟩:∃ z,zs[i]?=some z:=⟨_,List.getElem?_eq_getElem (by omega)⟩
   obtain ⟨g1,g2⟩:=ints_get zs hz i s l hi
   have hll:l.length <= 68719476736:=hl3 (s,l) (List.mem_of_getElem? hi)
   have e1:IntKind.i64.wrap ((i:Int)+1)=((i+1:Nat):Int):=by rw [i64_in _ (by omega)];omega
   have hgs:gcds (zs.take (i+1))=Nat.gcd (gcds (zs.take i)) (nl l):=by
    unfold gcds;rw [List.take_add_one,hi];simp
   simp only [↓R0,R1,simprocAttr,-Int.reduceAbs,t0,t4,t3,t2,c1,hne,hb,g2,e1,spGcd,hg,hll,nl_bl]
   refine ⟨n - 1,by omega,i+1,by omega,rfl,?_,?_⟩
   ·rw [hgs]
   ·rw [hgs]
    rcases Nat.eq_zero_or_pos (nl l) with e | e
    ·rw [e,Nat.gcd_zero_right];exact hg
    ·exact Nat.le_trans (bl_length_mono (Nat.gcd_le_right _ e)) (Nat.le_trans (bl_length_nl l) hll)
  ·have ei:i=len:=by omega
   subst ei
   have hg2:(bl (gcds (zs.take i))).length <= 1099511627776:=by omega
   have hz2:sv false (bl (gcds (zs.take i)))=(gcds (zs.take i):Int):=by rw [sv_false,nl_bl]
   simp only [↓R0,R1,simprocAttr,-Int.reduceAbs,t0,t4,t3,t2,c1,spI2of,hg2,hz2,iE,Fin,isEnd,resL,res1]
   refine ⟨_,rfl,rfl,fun k hk=>?_⟩
   simp only [if_neg (show ¬ N+0=k by omega)]
 ·(try simp only [↓R0,R1,simprocAttr,-Int.reduceAbs]) <;> rfl
 ·(try simp only [↓R0,R1,simprocAttr,-Int.reduceAbs]) <;> rfl
 ·(first | (simp only [↓R0,R1,simprocAttr,-Int.reduceAbs,gcds,List.foldl_nil,bl_zero];done) | (simp only [↓R0,R1,simprocAttr,-Int.reduceAbs,gcds,List.foldl_nil,bl_zero];rfl) | rfl)
 ·(try simp only [↓R0,R1,simprocAttr,-Int.reduceAbs]) <;> rfl
 ·simp [gcds,bl_zero]
def spOne:List Value -> Option Value
 | []=>some (.agg ⟨iE 1⟩)
 | _=>none
def c48:ICode:=
 (.seq (.reg [qq 0 (.alloc 70 2 [(.bool false),e0])]) (.seq (.reg [qq 1 (.call 47 [(ci 1)]),qn (.store 2 (.t 0) (.t 1))]) .ret))
theorem tr48:trFun Tryz.prog 48=some ⟨2,[.cell 0 true 2],c48⟩:=by kernel_rfl
theorem ok_r3one:SpecOK Tryz.prog 48 (flat spOne):=by
 refine flat_run (env_cons ok_r2From (env_nil _)) mixed tr48 ?_
 intro args v h N hG
 unfold spOne at hG
 split at hG
 case h_2=>cases hG
 cases hG
 refine ⟨rfl,by simp,?_⟩
 simp only [c48,G0,Nat.reduceAdd]
 simp only [↓R0,R1,simprocAttr,-Int.reduceAbs,spI2From,iE,Fin,isEnd,resL,res1]
 refine ⟨_,rfl,rfl,fun k hk=>?_⟩
 simp only [if_neg (show ¬ N+0=k by omega)]
def spAbove:List Value -> Option Value
 | [.agg ⟨[.bool s,.string ⟨⟨n⟩⟩,.string ⟨⟨d⟩⟩]⟩]=>if n.length <= 1099511627776 then some (.agg ⟨iE (sv s n)⟩) else none
 | _=>none
def c45:ICode:=
 (.seq (.reg [qq 1 (.box 38 3 (.t 0)),qq 2 (.alloc 70 2 [(.bool false),e0])]) (.seq (.reg [qq 3 (.faddr 0 (.t 1)),qq 4 (.load false 1 (.t 3)),qq 5 (.faddr 1 (.t 1)),qq 6 (.load false 1 (.t 5)),qq 7 (.build [(.bool false),e0] [(0,1,(.t 4)),(1,1,(.t 6))]),qq 8 (.call 75 [(.t 7)]),qn (.store 2 (.t 2) (.t 8))]) .ret))
theorem tr45:trFun Tryz.prog 45=some ⟨9,[.cell 2 true 2],c45⟩:=by kernel_rfl
theorem ok_r3above:SpecOK Tryz.prog 45 (flat spAbove):=by
 refine flat_run (env_cons ok_r2Norm (env_nil _)) mixed tr45 ?_
 intro args v h N hG
 unfold spAbove at hG
 split at hG
 case h_2=>cases hG
 rename_i s n d
 split at hG
 case isFalse=>cases hG
 rename_i hl
 cases hG
 refine ⟨rfl,by simp,?_⟩
 simp only [c45,G0,Nat.reduceAdd]
 simp only [↓R0,R1,simprocAttr,-Int.reduceAbs,spI2Norm,hl,iE,Fin,isEnd,resL,res1]
 refine ⟨_,rfl,rfl,fun k hk=>?_⟩
 simp only [if_neg (show ¬ N+1=k by omega),if_neg (show ¬ N+0=k by omega)]
def spBelow:List Value -> Option Value
 | [.agg ⟨[.bool s,.string ⟨⟨n⟩⟩,.string ⟨⟨d⟩⟩]⟩]=>if d.length <= 1099511627776 then some (.agg ⟨iE (dv d)⟩) else none
 | _=>none
def c46:ICode:=
 (.seq (.reg [qq 1 (.box 38 3 (.t 0)),qq 2 (.alloc 70 2 [(.bool false),e0])]) (.seq (.reg [qq 4 (.faddr 2 (.t 1)),qq 5 (.load false 1 (.t 4)),qq 6 (.build [(.bool false),e0] [(1,1,(.t 5))]),qq 7 (.call 75 [(.t 6)]),qq 3 (.alloc 70 2 [(.bool false),e0]),qn (.store 2 (.t 3) (.t 7))]) (.seq (.seq (.reg [qq 8 (.faddr 1 (.t 3)),qq 9 (.load false 1 (.t 8)),qq 10 (.bin .eql (.t 9) (.c e0))]) (.cond (.t 10) (.seq (.reg [qq 11 (.call 48 []),qn (.store 2 (.t 2) (.t 11))]) .ret) .skip)) (.seq (.reg [qq 12 (.load true 2 (.t 3)),qn (.store 2 (.t 2) (.t 12))]) .ret))))
theorem tr46:trFun Tryz.prog 46=some ⟨13,[.cell 2 true 2],c46⟩:=by kernel_rfl
theorem ok_r3below:SpecOK Tryz.prog 46 (flat spBelow):=by
 refine flat_run (env_cons ok_r2Norm (env_cons ok_r3one (env_nil _))) mixed tr46 ?_
 intro args v h N hG
 unfold spBelow at hG
 split at hG
 case h_2=>cases hG
 rename_i s n d
 split at hG
 case isFalse=>cases hG
 rename_i hl
 cases hG
 refine ⟨rfl,by simp,?_⟩
 have e0:(sv false d).natAbs=nl d:=sv_natAbs _ _
 by_cases h0:nl d=0
 ·have e1:dv d=1:=by unfold dv;rw [if_pos h0]
  rw [e1]
  simp only [c46,G0,Nat.reduceAdd]
  simp only [↓R0,R1,simprocAttr,-Int.reduceAbs,spI2Norm,spOne,hl,iE,bl_eq_nil,e0,h0,Fin,isEnd,resL,res1]
  refine ⟨_,rfl,rfl,fun k hk=>?_⟩
  simp only [if_neg (show ¬ N+2=k by omega),if_neg (show ¬ N+1=k by omega),if_neg (show ¬ N+0=k by omega)]
 ·have e1:dv d=sv false d:=by unfold dv;rw [if_neg h0];rfl
  rw [e1]
  simp only [c46,G0,Nat.reduceAdd]
  simp only [↓R0,R1,simprocAttr,-Int.reduceAbs,spI2Norm,spOne,hl,iE,bl_eq_nil,e0,h0,Fin,isEnd,resL,res1]
  refine ⟨_,rfl,?_,fun k hk=>?_⟩
  ·simp only [one,e0]
  ·simp only [if_neg (show ¬ N+2=k by omega),if_neg (show ¬ N+1=k by omega),if_neg (show ¬ N+0=k by omega)]
def spR3Make:List Value -> Option Value
 | [.agg ⟨[.bool s,.string ⟨⟨l⟩⟩]⟩,.agg ⟨[.bool t,.string ⟨⟨m⟩⟩]⟩]=>if l.length <= 68719476736 /\ m.length <= 68719476736 then
   (if nl m=0 then some (.tuple ⟨[.agg ⟨[.bool false,.string ⟨⟨[]⟩⟩,.string ⟨⟨[]⟩⟩]⟩,.bool false]⟩) else
    some (.tuple ⟨[.agg ⟨rE (Rat.divInt (sv s l) (sv t m))⟩,.bool true]⟩)) else none
 | _=>none
def c42:ICode:=
 (.seq (.reg [qq 2 (.box 70 2 (.t 0)),qq 3 (.box 70 2 (.t 1)),qq 4 (.alloc 38 3 [(.bool false),e0,e0]),qq 5 (.mv (.c (.bool false)))]) (.seq (.dreg [qu 9 (.load true 2 (.t 2)),qu 10 (.call 75 [(.t 9)]),qv 11 [1] (.load true 2 (.t 3)),qu 12 (.call 75 [(.t 11)]),qm (.store 2 (.t 2) (.t 10)),qm (.store 2 (.t 3) (.t 12))]) (.seq (.seq (.reg [qq 13 (.faddr 1 (.t 3)),qq 14 (.load false 1 (.t 13)),qq 15 (.bin .eql (.t 14) (.c e0))]) (.cond (.t 15) (.seq (.reg [qq 16 (.build [(.bool false),e0,e0] []),qn (.store 3 (.t 4) (.t 16)),qq 5 (.mv (.c (.bool false)))]) .ret) .skip)) (.seq (.reg [qq 17 (.faddr 0 (.t 2)),qq 18 (.load false 1 (.t 17)),qq 19 (.faddr 0 (.t 3)),qq 20 (.load false 1 (.t 19)),qq 21 (.eqb true (.t 18) (.t 20)),qq 6 (.mv (.t 21))]) (.seq (.reg [qq 22 (.faddr 0 (.t 2)),qn (.store 1 (.t 22) (.c (.bool false))),qq 23 (.faddr 0 (.t 3)),qn (.store 1 (.t 23) (.c (.bool false)))]) (.seq (.reg [qq 24 (.load true 2 (.t 2)),qq 25 (.load true 2 (.t 3)),qq 26 (.bslice 70 2 2 [(.bool false),e0,(.bool false),e0] [(0,2,(.t 24)),(2,2,(.t 25))]),qq 27 (.call 76 [(.t 26)]),qq 7 (.alloc 70 2 [(.bool false),e0]),qn (.store 2 (.t 7) (.t 27))]) (.seq (.reg [qq 29 (.load true 2 (.t 2)),qq 30 (.load true 2 (.t 7)),qq 31 (.call 77 [(.t 29),(.t 30)]),qq 28 (.mv (.t 31)),qq 32 (.ext (.t 28) 0),qq 33 (.ext (.t 28) 1),qq 34 (.ext (.t 28) 2),qn (.store 2 (.t 2) (.t 32))]) (.seq (.reg [qq 36 (.load true 2 (.t 3)),qq 37 (.load true 2 (.t 7)),qq 38 (.call 77 [(.t 36),(.t 37)]),qq 35 (.mv (.t 38)),qq 39 (.ext (.t 35) 0),qq 40 (.ext (.t 35) 1),qq 41 (.ext (.t 35) 2),qn (.store 2 (.t 3) (.t 39))]) (.seq (.reg [qq 42 (.mv (.t 6)),qq 43 (.faddr 1 (.t 2)),qq 44 (.load false 1 (.t 43)),qq 45 (.faddr 1 (.t 3)),qq 46 (.load false 1 (.t 45)),qq 47 (.build [(.bool false),e0,e0] [(0,1,(.t 42)),(1,1,(.t 44)),(2,1,(.t 46))]),qq 8 (.alloc 38 3 [(.bool false),e0,e0]),qn (.store 3 (.t 8) (.t 47))]) (.seq (.seq (.reg [qq 48 (.faddr 1 (.t 8)),qq 49 (.load false 1 (.t 48)),qq 50 (.bin .eql (.t 49) (.c e0))]) (.cond (.t 50) (.reg [qq 51 (.faddr 0 (.t 8)),qn (.store 1 (.t 51) (.c (.bool false)))]) .skip)) (.seq (.seq (.dreg [qu 52 (.load true 2 (.t 3)),qu 53 (.call 48 []),qu 54 (.eqa false [.b,.s] (.t 52) (.t 53))]) (.cond (.t 54) (.reg [qq 55 (.faddr 2 (.t 8)),qn (.store 1 (.t 55) (.c e0))]) .skip)) (.seq (.reg [qq 56 (.load true 3 (.t 8)),qn (.store 3 (.t 4) (.t 56)),qq 5 (.mv (.c (.bool true)))]) .ret))))))))))))
theorem tr42:trFun Tryz.prog 42=some ⟨57,[.cell 4 true 3,.t 5],c42⟩:=by kernel_rfl
theorem ok_r3Make:SpecOK Tryz.prog 42 (flat spR3Make):=by
 refine flat_run (env_cons ok_r2Norm (env_cons ok_r2Gcd (env_cons ok_r2Div (env_cons ok_r3one (env_nil _))))) mixed tr42 ?_
 intro args v h N hG
 unfold spR3Make at hG
 split at hG
 case h_2=>cases hG
 rename_i s l t m
 split at hG
 case isFalse=>cases hG
 rename_i hl
 obtain ⟨hl,hm⟩:=hl
 have l2:l.length <= 1099511627776:=by omega
 have m2:m.length <= 1099511627776:=by omega
 have aN:(sv s l).natAbs=nl l:=sv_natAbs _ _
 have aD:(sv t m).natAbs=nl m:=sv_natAbs _ _
 split at hG
 ·rename_i h0
  cases hG
  refine ⟨rfl,by simp,?_⟩
  simp only [c42,G0,Nat.reduceAdd]
  simp only [↓R0,R1,simprocAttr,-Int.reduceAbs,spI2Norm,l2,m2,iE,bl_eq_nil,aD,h0,Fin,isEnd,resL,res1]
  refine ⟨_,rfl,rfl,fun k hk=>?_⟩
  simp only [if_neg (show ¬ N+2=k by omega),if_neg (show ¬ N+1=k by omega),if_neg (show ¬ N+0=k by omega)]
 rename_i h0
 cases hG
 refine ⟨rfl,by simp,?_⟩
 have hD:sv t m ≠ 0:=fun e=>h0 ((sv_eq_zero t m).1 e)
 obtain ⟨d1,d2,d3⟩:=divInt_cells (N:=sv s l) hD
 rw [aN,aD] at d1 d2
 have lN:(bl (nl l)).length <= 68719476736:=Nat.le_trans (bl_length_nl l) hl
 have lD:(bl (nl m)).length <= 68719476736:=Nat.le_trans (bl_length_nl m) hm
 have hst:decide ((Rat.divInt (sv s l) (sv t m)).num < 0)=(decide (decide (sv s l < 0) ≠ decide (sv t m < 0)) && decide (nl l ≠ 0)):=by
  rw [Bool.eq_iff_iff]
  simp only [decide_eq_true_eq,Bool.and_eq_true,d3,ne_eq,sv_eq_zero]
 have hG0:0 < (nl l).gcd (nl m):=Nat.gcd_pos_of_pos_right _ (by omega)
 have lG:(bl ((nl l).gcd (nl m))).length <= 68719476736:=Nat.le_trans (bl_length_mono (Nat.gcd_le_right _ (by omega))) lD
 have hL0:nl l / (nl l).gcd (nl m)=0 ↔ nl l=0:=by
  obtain ⟨k,hk⟩:=Nat.gcd_dvd_left (nl l) (nl m)
  generalize (nl l).gcd (nl m)=G at *
  constructor
  ·intro e
   rw [hk,Nat.mul_div_cancel_left _ hG0] at e
   rw [hk,e];simp
  ·intro e;rw [e];simp
 unfold rE
 rw [hst,d1,d2]
 clear hst d1 d2 d3
 generalize hGG:(nl l).gcd (nl m)=G at *
 have f1:¬ ((G:Int) < 0):=by omega
 have f2:¬ (G=0):=by omega
 have f3:sv false (bl (nl l))=(nl l:Int):=by rw [sv_false,nl_bl]
 have f4:sv false (bl (nl m))=(nl m:Int):=by rw [sv_false,nl_bl]
 have f5:sv false (bl G)=(G:Int):=by rw [sv_false,nl_bl]
 have f6:(nl l:Int) / (G:Int)=((nl l / G:Nat):Int):=by simp
 have f7:(nl m:Int) / (G:Int)=((nl m / G:Nat):Int):=by simp
 have f8:¬ (((nl l / G:Nat):Int) < 0):=Int.not_lt.2 (Int.natCast_nonneg _)
 have f9:¬ (((nl m / G:Nat):Int) < 0):=Int.not_lt.2 (Int.natCast_nonneg _)
 have f10:(bl (nl m / G)=bl (Int.natAbs 1))=(nl m / G=1):=propext ⟨fun e=>bl_inj e,fun e=>by rw [e];rfl⟩
 simp only [c42,G0,Nat.reduceAdd]
 simp only [↓R0,R1,simprocAttr,-Int.reduceAbs,spI2Norm,l2,m2,iE,bl_eq_nil,aN,aD,h0,rdS,spI2Gcd,ints,gcds,List.foldl_cons,List.foldl_nil,Nat.gcd_zero_left,nl_bl,List.forall_mem_cons,lN,lD,List.not_mem_nil,false_implies,implies_true,hGG,f1,f2,f3,f4,f5,f6,f7,f8,f9,lG,Int.natAbs_natCast,spI2Div,spOne,ceq,f10]
 have f11:(bl 1=bl (Int.natAbs 1))=True:=eq_true rfl
 have nb:∀ k,k < N -> ¬ N+7=k /\ ¬ N+6=k /\ ¬ N+5=k /\ ¬ N+4=k /\ ¬ N+3=k /\ ¬ N+2=k /\ ¬ N+1=k /\ ¬ N+0=k:=fun k hk=>by omega
 by_cases c1:nl l / G=0
 ·have c2:nl l=0:=hL0.1 c1
  by_cases c3:nl m / G=1
  ·simp only [↓R0,R1,simprocAttr,-Int.reduceAbs,c1,c3,f11,spOne,iE,ceq,f10,Option.map_some,Bool.true_and,Bool.and_true,Fin,isEnd,resL,res1]
   refine ⟨_,rfl,?_,fun k hk=>?_⟩
   ·simp [one,c2,c3]
   ·simp only [nb k hk,if_false]
  ·simp only [↓R0,R1,simprocAttr,-Int.reduceAbs,c1,c3,f11,spOne,iE,ceq,f10,Option.map_some,Bool.true_and,Bool.and_true,Fin,isEnd,resL,res1]
   refine ⟨_,rfl,?_,fun k hk=>?_⟩
   ·simp [one,c2,c3]
   ·simp only [nb k hk,if_false]
 ·have c2:¬ nl l=0:=fun e=>c1 (hL0.2 e)
  by_cases c3:nl m / G=1
  ·simp only [↓R0,R1,simprocAttr,-Int.reduceAbs,c1,c3,f11,spOne,iE,ceq,f10,Option.map_some,Bool.true_and,Bool.and_true,Fin,isEnd,resL,res1]
   refine ⟨_,rfl,?_,fun k hk=>?_⟩
   ·simp [one,c2,c3]
   ·simp only [nb k hk,if_false]
  ·simp only [↓R0,R1,simprocAttr,-Int.reduceAbs,c1,c3,f11,spOne,iE,ceq,f10,Option.map_some,Bool.true_and,Bool.and_true,Fin,isEnd,resL,res1]
   refine ⟨_,rfl,?_,fun k hk=>?_⟩
   ·simp [one,c2,c3]
   ·simp only [nb k hk,if_false]
def spR3Norm:List Value -> Option Value
 | [.agg ⟨[.bool s,.string ⟨⟨n⟩⟩,.string ⟨⟨d⟩⟩]⟩]=>if n.length <= 34359738368 /\ d.length <= 34359738368 then some (.agg ⟨rE (rv s n d)⟩) else none
 | _=>none
theorem bl_dv (d:List UInt8):(bl (dv d).natAbs).length <= d.length+1:=by
 unfold dv
 split
 ·exact Nat.le_trans (bl_length_le (k:=1).2 (by decide)) (by omega)
 ·exact Nat.le_trans (bl_length_nl d) (by omega)
theorem dv_nl (d:List UInt8):¬ (dv d).natAbs=0:=by have:=dv_pos d;omega
def c27:ICode:=
 (.seq (.reg [qq 1 (.box 38 3 (.t 0)),qq 2 (.alloc 38 3 [(.bool false),e0,e0])]) (.seq (.dreg [qu 6 (.load true 3 (.t 1)),qu 7 (.call 45 [(.t 6)]),qv 8 [1] (.load true 3 (.t 1)),qu 9 (.call 46 [(.t 8)]),qu 10 (.call 42 [(.t 7),(.t 9)]),qu 5 (.mv (.t 10)),qu 11 (.ext (.t 5) 0),qu 12 (.ext (.t 5) 1),qu 3 (.alloc 38 3 [(.bool false),e0,e0]),qm (.store 3 (.t 3) (.t 11)),qu 4 (.mv (.t 12))]) (.seq (.reg [qq 13 (.load true 3 (.t 3)),qn (.store 3 (.t 2) (.t 13))]) .ret)))
theorem tr27:trFun Tryz.prog 27=some ⟨14,[.cell 2 true 3],c27⟩:=by kernel_rfl
theorem ok_r3Norm:SpecOK Tryz.prog 27 (flat spR3Norm):=by
 refine flat_run (env_cons ok_r3above (env_cons ok_r3below (env_cons ok_r3Make (env_nil _)))) mixed tr27 ?_
 intro args v h N hG
 unfold spR3Norm at hG
 split at hG
 case h_2=>cases hG
 rename_i s n d
 split at hG
 case isFalse=>cases hG
 rename_i hl
 cases hG
 refine ⟨rfl,by simp,?_⟩
 have n2:n.length <= 1099511627776:=by omega
 have d2:d.length <= 1099511627776:=by omega
 have n3:(bl (sv s n).natAbs).length <= 68719476736:=by rw [sv_natAbs];exact Nat.le_trans (bl_length_nl n) (by omega)
 have d3:(bl (dv d).natAbs).length <= 68719476736:=Nat.le_trans (bl_dv d) (by omega)
 have d4:=dv_nl d
 unfold rv
 simp only [c27,G0,Nat.reduceAdd]
 simp only [↓R0,R1,simprocAttr,-Int.reduceAbs,spAbove,spBelow,spR3Make,n2,d2,n3,d3,d4,nl_bl,iE,rE,Fin,isEnd,resL,res1]
 exact ⟨_,rfl,rfl,fun k hk=>by simp only [ne_nb hk,if_false]⟩
def spR3Sign:List Value -> Option Value
 | [.agg ⟨[.bool s,.string ⟨⟨n⟩⟩,.string ⟨⟨d⟩⟩]⟩]=>if n.length <= 34359738368 /\ d.length <= 34359738368 then some (.int .i64 (sv s n).sign) else none
 | _=>none
def c96:ICode:=
 (.seq (.reg [qq 1 (.box 38 3 (.t 0)),qq 2 (.mv (ci 0))]) (.seq (.reg [qq 3 (.load true 3 (.t 1)),qq 4 (.call 45 [(.t 3)]),qq 5 (.call 101 [(.t 4)]),qq 2 (.mv (.t 5))]) .ret))
theorem tr96:trFun Tryz.prog 96=some ⟨6,[.t 2],c96⟩:=by kernel_rfl
theorem ok_r3Sign:SpecOK Tryz.prog 96 (flat spR3Sign):=by
 refine flat_run (env_cons ok_r3above (env_cons ok_r2Sign (env_nil _))) mixed tr96 ?_
 intro args v h N hG
 unfold spR3Sign at hG
 split at hG
 case h_2=>cases hG
 rename_i s n d
 split at hG
 case isFalse=>cases hG
 rename_i hl
 cases hG
 refine ⟨rfl,by simp,?_⟩
 have n2:n.length <= 1099511627776:=by omega
 have n3:(bl (sv s n).natAbs).length <= 1099511627776:=by rw [sv_natAbs];exact Nat.le_trans (bl_length_nl n) (by omega)
 simp only [c96,G0,Nat.reduceAdd]
 simp only [↓R0,R1,simprocAttr,-Int.reduceAbs,spAbove,spI2Sign,n2,n3,Fin,isEnd,resL,res1,iE,rE]
 exact ⟨_,rfl,rfl,fun k hk=>by simp only [ne_nb hk,if_false]⟩
def spR3Neg:List Value -> Option Value
 | [.agg ⟨[.bool s,.string ⟨⟨n⟩⟩,.string ⟨⟨d⟩⟩]⟩]=>if n.length <= 34359738368 /\ d.length <= 34359738368 then some (.agg ⟨rE (- rv s n d)⟩) else none
 | _=>none
def c129:ICode:=
 (.seq (.reg [qq 1 (.box 38 3 (.t 0)),qq 2 (.alloc 38 3 [(.bool false),e0,e0])]) (.seq (.dreg [qu 6 (.load true 3 (.t 1)),qu 7 (.call 45 [(.t 6)]),qu 8 (.call 119 [(.t 7)]),qv 9 [1,2] (.load true 3 (.t 1)),qu 10 (.call 46 [(.t 9)]),qu 11 (.call 42 [(.t 8),(.t 10)]),qu 5 (.mv (.t 11)),qu 12 (.ext (.t 5) 0),qu 13 (.ext (.t 5) 1),qu 3 (.alloc 38 3 [(.bool false),e0,e0]),qm (.store 3 (.t 3) (.t 12)),qu 4 (.mv (.t 13))]) (.seq (.reg [qq 14 (.load true 3 (.t 3)),qn (.store 3 (.t 2) (.t 14))]) .ret)))
theorem tr129:trFun Tryz.prog 129=some ⟨15,[.cell 2 true 3],c129⟩:=by kernel_rfl
theorem ok_r3Neg:SpecOK Tryz.prog 129 (flat spR3Neg):=by
 refine flat_run (env_cons ok_r3above (env_cons ok_r3below (env_cons ok_r3Make (env_cons ok_r2Neg (env_nil _))))) mixed tr129 ?_
 intro args v h N hG
 unfold spR3Neg at hG
 split at hG
 case h_2=>cases hG
 rename_i s n d
 split at hG
 case isFalse=>cases hG
 rename_i hl
 cases hG
 refine ⟨rfl,by simp,?_⟩
 have n2:n.length <= 1099511627776:=by omega
 have d2:d.length <= 1099511627776:=by omega
 have n3:(bl (sv s n).natAbs).length <= 1099511627776:=by rw [sv_natAbs];exact Nat.le_trans (bl_length_nl n) (by omega)
 have n4:(bl (-sv s n).natAbs).length <= 68719476736:=by rw [Int.natAbs_neg,sv_natAbs];exact Nat.le_trans (bl_length_nl n) (by omega)
 have d3:(bl (dv d).natAbs).length <= 68719476736:=Nat.le_trans (bl_dv d) (by omega)
 have d4:=dv_nl d
 unfold rv
 rw [Rat.neg_divInt]
 simp only [c129,G0,Nat.reduceAdd]
 simp only [↓R0,R1,simprocAttr,-Int.reduceAbs,spAbove,spBelow,spR3Make,spI2Neg,n2,d2,n3,n4,d3,d4,nl_bl,Fin,isEnd,resL,res1,iE,rE]
 exact ⟨_,rfl,rfl,fun k hk=>by simp only [ne_nb hk,if_false]⟩
theorem len_mul {a b:Int} {j k:Nat} (ha:(bl a.natAbs).length <= j) (hb:(bl b.natAbs).length <= k):(bl (a * b).natAbs).length <= j+k:=by
 rw [Int.natAbs_mul];exact Nat.le_trans (bl_length_mul _ _) (by omega)
theorem len_add {a b:Int} {k:Nat} (ha:(bl a.natAbs).length <= k) (hb:(bl b.natAbs).length <= k):(bl (a+b).natAbs).length <= k+1:=
 Nat.le_trans (bl_length_mono (Int.natAbs_add_le a b)) (bl_length_add ha hb)
theorem len_sv {s:Bool} {n:List UInt8} {k:Nat} (h:n.length <= k):(bl (sv s n).natAbs).length <= k:=by rw [sv_natAbs];exact Nat.le_trans (bl_length_nl n) h
theorem len_dv {d:List UInt8} {k:Nat} (h:d.length+1 <= k):(bl (dv d).natAbs).length <= k:=Nat.le_trans (bl_dv d) h
def spR3Mul:List Value -> Option Value
 | [.agg ⟨[.bool s,.string ⟨⟨n⟩⟩,.string ⟨⟨d⟩⟩]⟩,.agg ⟨[.bool t,.string ⟨⟨m⟩⟩,.string ⟨⟨e⟩⟩]⟩]=>if n.length <= 8589934592 /\ d.length <= 8589934592 /\ m.length <= 8589934592 /\ e.length <= 8589934592 then some (.agg ⟨rE (rv s n d * rv t m e)⟩) else none
 | _=>none
def c22:ICode:=
 (.seq (.reg [qq 2 (.box 38 3 (.t 0)),qq 3 (.box 38 3 (.t 1)),qq 4 (.alloc 38 3 [(.bool false),e0,e0])]) (.seq (.dreg [qu 8 (.load true 3 (.t 2)),qu 9 (.call 45 [(.t 8)]),qv 10 [1] (.load true 3 (.t 3)),qu 11 (.call 45 [(.t 10)]),qu 12 (.call 44 [(.t 9),(.t 11)]),qv 13 [1,3,4] (.load true 3 (.t 2)),qu 14 (.call 46 [(.t 13)]),qv 15 [1,3,4,6] (.load true 3 (.t 3)),qu 16 (.call 46 [(.t 15)]),qu 17 (.call 44 [(.t 14),(.t 16)]),qu 18 (.call 42 [(.t 12),(.t 17)]),qu 7 (.mv (.t 18)),qu 19 (.ext (.t 7) 0),qu 20 (.ext (.t 7) 1),qu 5 (.alloc 38 3 [(.bool false),e0,e0]),qm (.store 3 (.t 5) (.t 19)),qu 6 (.mv (.t 20))]) (.seq (.reg [qq 21 (.load true 3 (.t 5)),qn (.store 3 (.t 4) (.t 21))]) .ret)))
theorem tr22:trFun Tryz.prog 22=some ⟨22,[.cell 4 true 3],c22⟩:=by kernel_rfl
theorem ok_r3Mul:SpecOK Tryz.prog 22 (flat spR3Mul):=by
 refine flat_run (env_cons ok_r3above (env_cons ok_r3below (env_cons ok_r3Make (env_cons ok_r2Mul (env_nil _))))) mixed tr22 ?_
 intro args v h N hG
 unfold spR3Mul at hG
 split at hG
 case h_2=>cases hG
 rename_i s n d t m e
 split at hG
 case isFalse=>cases hG
 rename_i hl
 obtain ⟨h1,h2,h3,h4⟩:=hl
 cases hG
 refine ⟨rfl,by simp,?_⟩
 have n2:n.length <= 1099511627776:=by omega
 have d2:d.length <= 1099511627776:=by omega
 have m2:m.length <= 1099511627776:=by omega
 have e2:e.length <= 1099511627776:=by omega
 have n3:=len_sv (s:=s) h1
 have m3:=len_sv (s:=t) h3
 have d3:(bl (dv d).natAbs).length <= 8589934593:=len_dv (by omega)
 have e3:(bl (dv e).natAbs).length <= 8589934593:=len_dv (by omega)
 have p1:(bl (sv s n).natAbs).length+(bl (sv t m).natAbs).length <= 274877906944:=by omega
 have p2:(bl (dv d).natAbs).length+(bl (dv e).natAbs).length <= 274877906944:=by omega
 have q1:(bl (sv s n * sv t m).natAbs).length <= 68719476736:=Nat.le_trans (len_mul n3 m3) (by omega)
 have q2:(bl (dv d * dv e).natAbs).length <= 68719476736:=Nat.le_trans (len_mul d3 e3) (by omega)
 have q3:¬ (dv d * dv e).natAbs=0:=by have:=Int.mul_pos (dv_pos d) (dv_pos e);omega
 unfold rv
 rw [Rat.divInt_mul_divInt]
 simp only [c22,G0,Nat.reduceAdd]
 simp only [↓R0,R1,simprocAttr,-Int.reduceAbs,spAbove,spBelow,spR3Make,spI2Mul,n2,d2,m2,e2,p1,p2,q1,q2,q3,nl_bl,Fin,isEnd,resL,res1,iE,rE]
 exact ⟨_,rfl,rfl,fun k hk=>by simp only [ne_nb hk,if_false]⟩
def spR3Add:List Value -> Option Value
 | [.agg ⟨[.bool s,.string ⟨⟨n⟩⟩,.string ⟨⟨d⟩⟩]⟩,.agg ⟨[.bool t,.string ⟨⟨m⟩⟩,.string ⟨⟨e⟩⟩]⟩]=>if n.length <= 8589934592 /\ d.length <= 8589934592 /\ m.length <= 8589934592 /\ e.length <= 8589934592 then some (.agg ⟨rE (rv s n d+rv t m e)⟩) else none
 | _=>none
def c20:ICode:=
 (.seq (.reg [qq 2 (.box 38 3 (.t 0)),qq 3 (.box 38 3 (.t 1)),qq 4 (.alloc 38 3 [(.bool false),e0,e0])]) (.seq (.dreg [qu 8 (.load true 3 (.t 2)),qu 9 (.call 45 [(.t 8)]),qv 10 [1] (.load true 3 (.t 3)),qu 11 (.call 46 [(.t 10)]),qu 12 (.call 44 [(.t 9),(.t 11)]),qv 13 [1,3,4] (.load true 3 (.t 3)),qu 14 (.call 45 [(.t 13)]),qv 15 [1,3,4,6] (.load true 3 (.t 2)),qu 16 (.call 46 [(.t 15)]),qu 17 (.call 44 [(.t 14),(.t 16)]),qu 18 (.call 43 [(.t 12),(.t 17)]),qv 19 [1,3,4,6,8,9,10] (.load true 3 (.t 2)),qu 20 (.call 46 [(.t 19)]),qv 21 [1,3,4,6,8,9,10,12] (.load true 3 (.t 3)),qu 22 (.call 46 [(.t 21)]),qu 23 (.call 44 [(.t 20),(.t 22)]),qu 24 (.call 42 [(.t 18),(.t 23)]),qu 7 (.mv (.t 24)),qu 25 (.ext (.t 7) 0),qu 26 (.ext (.t 7) 1),qu 5 (.alloc 38 3 [(.bool false),e0,e0]),qm (.store 3 (.t 5) (.t 25)),qu 6 (.mv (.t 26))]) (.seq (.reg [qq 27 (.load true 3 (.t 5)),qn (.store 3 (.t 4) (.t 27))]) .ret)))
theorem tr20:trFun Tryz.prog 20=some ⟨28,[.cell 4 true 3],c20⟩:=by kernel_rfl
theorem ok_r3Add:SpecOK Tryz.prog 20 (flat spR3Add):=by
 refine flat_run (env_cons ok_r3above (env_cons ok_r3below (env_cons ok_r3Make (env_cons ok_r2Mul (env_cons ok_r2Add (env_nil _)))))) mixed tr20 ?_
 intro args v h N hG
 unfold spR3Add at hG
 split at hG
 case h_2=>cases hG
 rename_i s n d t m e
 split at hG
 case isFalse=>cases hG
 rename_i hl
 obtain ⟨h1,h2,h3,h4⟩:=hl
 cases hG
 refine ⟨rfl,by simp,?_⟩
 have n2:n.length <= 1099511627776:=by omega
 have d2:d.length <= 1099511627776:=by omega
 have m2:m.length <= 1099511627776:=by omega
 have e2:e.length <= 1099511627776:=by omega
 have n3:=len_sv (s:=s) h1
 have m3:=len_sv (s:=t) h3
 have d3:(bl (dv d).natAbs).length <= 8589934593:=len_dv (by omega)
 have e3:(bl (dv e).natAbs).length <= 8589934593:=len_dv (by omega)
 have p1:(bl (sv s n).natAbs).length+(bl (dv e).natAbs).length <= 274877906944:=by omega
 have p2:(bl (sv t m).natAbs).length+(bl (dv d).natAbs).length <= 274877906944:=by omega
 have p3:(bl (dv d).natAbs).length+(bl (dv e).natAbs).length <= 274877906944:=by omega
 have q1:=len_mul n3 e3
 have q2:=len_mul m3 d3
 have q3:(bl (dv d * dv e).natAbs).length <= 68719476736:=Nat.le_trans (len_mul d3 e3) (by omega)
 have q4:¬ (dv d * dv e).natAbs=0:=by have:=Int.mul_pos (dv_pos d) (dv_pos e);omega
 have q5:(bl (sv s n * dv e+sv t m * dv d).natAbs).length <= 68719476736:=Nat.le_trans (len_add q1 q2) (by omega)
 have q6:(bl (sv s n * dv e).natAbs).length <= 549755813888:=Nat.le_trans q1 (by omega)
 have q7:(bl (sv t m * dv d).natAbs).length <= 549755813888:=Nat.le_trans q2 (by omega)
 unfold rv
 rw [Rat.divInt_add_divInt _ _ (by have:=dv_pos d;omega) (by have:=dv_pos e;omega)]
 simp only [c20,G0,Nat.reduceAdd]
 simp only [↓R0,R1,simprocAttr,-Int.reduceAbs,spAbove,spBelow,spR3Make,spI2Mul,spI2Add,n2,d2,m2,e2,p1,p2,p3,q3,q4,q5,q6,q7,nl_bl,Fin,isEnd,resL,res1,iE,rE]
 exact ⟨_,rfl,rfl,fun k hk=>by simp only [ne_nb hk,if_false]⟩
def spR3Div:List Value -> Option Value
 | [.agg ⟨[.bool s,.string ⟨⟨n⟩⟩,.string ⟨⟨d⟩⟩]⟩,.agg ⟨[.bool t,.string ⟨⟨m⟩⟩,.string ⟨⟨e⟩⟩]⟩]=>if n.length <= 8589934592 /\ d.length <= 8589934592 /\ m.length <= 8589934592 /\ e.length <= 8589934592 then
   (if nl m=0 then some (.tuple ⟨[.agg ⟨[.bool false,.string ⟨⟨[]⟩⟩,.string ⟨⟨[]⟩⟩]⟩,.bool false]⟩) else some (.tuple ⟨[.agg ⟨rE (rv s n d / rv t m e)⟩,.bool true]⟩)) else none
 | _=>none
def c97:ICode:=
 (.seq (.reg [qq 2 (.box 38 3 (.t 0)),qq 3 (.box 38 3 (.t 1)),qq 4 (.alloc 38 3 [(.bool false),e0,e0]),qq 5 (.mv (.c (.bool false)))]) (.seq (.dreg [qu 6 (.load true 3 (.t 2)),qu 7 (.call 45 [(.t 6)]),qv 8 [1] (.load true 3 (.t 3)),qu 9 (.call 46 [(.t 8)]),qu 10 (.call 44 [(.t 7),(.t 9)]),qv 11 [1,3,4] (.load true 3 (.t 2)),qu 12 (.call 46 [(.t 11)]),qv 13 [1,3,4,6] (.load true 3 (.t 3)),qu 14 (.call 45 [(.t 13)]),qu 15 (.call 44 [(.t 12),(.t 14)]),qu 16 (.call 42 [(.t 10),(.t 15)]),qu 17 (.ext (.t 16) 0),qu 18 (.ext (.t 16) 1),qm (.store 3 (.t 4) (.t 17)),qu 5 (.mv (.t 18))]) .ret))
theorem tr97:trFun Tryz.prog 97=some ⟨19,[.cell 4 true 3,.t 5],c97⟩:=by kernel_rfl
theorem ok_r3Div:SpecOK Tryz.prog 97 (flat spR3Div):=by
 refine flat_run (env_cons ok_r3above (env_cons ok_r3below (env_cons ok_r3Make (env_cons ok_r2Mul (env_nil _))))) mixed tr97 ?_
 intro args v h N hG
 unfold spR3Div at hG
 split at hG
 case h_2=>cases hG
 rename_i s n d t m e
 split at hG
 case isFalse=>cases hG
 rename_i hl
 obtain ⟨h1,h2,h3,h4⟩:=hl
 have n2:n.length <= 1099511627776:=by omega
 have d2:d.length <= 1099511627776:=by omega
 have m2:m.length <= 1099511627776:=by omega
 have e2:e.length <= 1099511627776:=by omega
 have n3:=len_sv (s:=s) h1
 have m3:=len_sv (s:=t) h3
 have d3:(bl (dv d).natAbs).length <= 8589934593:=len_dv (by omega)
 have e3:(bl (dv e).natAbs).length <= 8589934593:=len_dv (by omega)
 have p1:(bl (sv s n).natAbs).length+(bl (dv e).natAbs).length <= 274877906944:=by omega
 have p3:(bl (dv d).natAbs).length+(bl (sv t m).natAbs).length <= 274877906944:=by omega
 have q1:(bl (sv s n * dv e).natAbs).length <= 68719476736:=Nat.le_trans (len_mul n3 e3) (by omega)
 have q3:(bl (dv d * sv t m).natAbs).length <= 68719476736:=Nat.le_trans (len_mul d3 m3) (by omega)
 have q4:(dv d * sv t m).natAbs=0 ↔ nl m=0:=by
  rw [Int.natAbs_eq_zero,Int.mul_eq_zero,sv_eq_zero]
  have:=dv_pos d
  constructor
  ·rintro (h | h)
   ·omega
   ·exact h
  ·exact .inr
 split at hG
 ·rename_i h0
  cases hG
  refine ⟨rfl,by simp,?_⟩
  simp only [c97,G0,Nat.reduceAdd]
  simp only [↓R0,R1,simprocAttr,-Int.reduceAbs,spAbove,spBelow,spR3Make,spI2Mul,n2,d2,m2,e2,p1,p3,q1,q3,q4,h0,nl_bl,Fin,isEnd,resL,res1,iE,rE]
  exact ⟨_,rfl,rfl,fun k hk=>by simp only [ne_nb hk,if_false]⟩
 ·rename_i h0
  cases hG
  refine ⟨rfl,by simp,?_⟩
  unfold rv
  rw [Rat.div_def,Rat.inv_divInt,Rat.divInt_mul_divInt]
  simp only [c97,G0,Nat.reduceAdd]
  simp only [↓R0,R1,simprocAttr,-Int.reduceAbs,spAbove,spBelow,spR3Make,spI2Mul,n2,d2,m2,e2,p1,p3,q1,q3,q4,h0,nl_bl,Fin,isEnd,resL,res1,iE,rE]
  exact ⟨_,rfl,rfl,fun k hk=>by simp only [ne_nb hk,if_false]⟩
theorem len_rneg (q:Rat):(-q).num.natAbs=q.num.natAbs /\ (-q).den=q.den:=by
 constructor
 ·rw [Rat.neg_num];simp
 ·rw [Rat.neg_den]
theorem len_den (q:Rat) {k:Nat} (h:(bl q.den).length <= k):(if q.den=1 then ([]:List UInt8) else bl q.den).length <= k:=by
 split
 ·simp
 ·exact h
theorem divInt_le {N D:Int} (hD:0 < D):(Rat.divInt N D).num.natAbs <= N.natAbs /\ (Rat.divInt N D).den <= D.natAbs:=by
 obtain ⟨h1,h2,_⟩:=divInt_cells (N:=N) (D:=D) (by omega)
 rw [h1,h2]
 exact ⟨Nat.div_le_self _ _,Nat.div_le_self _ _⟩
def spR3Sub:List Value -> Option Value
 | [.agg ⟨[.bool s,.string ⟨⟨n⟩⟩,.string ⟨⟨d⟩⟩]⟩,.agg ⟨[.bool t,.string ⟨⟨m⟩⟩,.string ⟨⟨e⟩⟩]⟩]=>if n.length <= 8589934592 /\ d.length <= 8589934592 /\ m.length <= 8589934592 /\ e.length+1 <= 8589934592 then some (.agg ⟨rE (rv s n d - rv t m e)⟩) else none
 | _=>none
def c117:ICode:=
 (.seq (.reg [qq 2 (.box 38 3 (.t 0)),qq 3 (.box 38 3 (.t 1)),qq 4 (.alloc 38 3 [(.bool false),e0,e0])]) (.seq (.dreg [qu 5 (.load true 3 (.t 2)),qu 6 (.load true 3 (.t 3)),qu 7 (.call 129 [(.t 6)]),qu 8 (.call 20 [(.t 5),(.t 7)]),qm (.store 3 (.t 4) (.t 8))]) .ret))
theorem tr117:trFun Tryz.prog 117=some ⟨9,[.cell 4 true 3],c117⟩:=by kernel_rfl
theorem ok_r3Sub:SpecOK Tryz.prog 117 (flat spR3Sub):=by
 refine flat_run (env_cons ok_r3Neg (env_cons ok_r3Add (env_nil _))) mixed tr117 ?_
 intro args v h N hG
 unfold spR3Sub at hG
 split at hG
 case h_2=>cases hG
 rename_i s n d t m e
 split at hG
 case isFalse=>cases hG
 rename_i hl
 obtain ⟨h1,h2,h3,h4⟩:=hl
 cases hG
 refine ⟨rfl,by simp,?_⟩
 obtain ⟨g1,g2⟩:=divInt_le (N:=sv t m) (dv_pos e)
 have m2:m.length <= 34359738368:=by omega
 have e2:e.length <= 34359738368:=by omega
 have m3:(bl (-rv t m e).num.natAbs).length <= 8589934592:=by
  rw [(len_rneg _).1];exact Nat.le_trans (bl_length_mono g1) (len_sv h3)
 have e3:(if (-rv t m e).den=1 then ([]:List UInt8) else bl (-rv t m e).den).length <= 8589934592:=by
  refine len_den _ ?_
  rw [(len_rneg _).2];exact Nat.le_trans (bl_length_mono g2) (Nat.le_trans (bl_dv e) h4)
 rw [Rat.sub_eq_add_neg]
 simp only [c117,G0,Nat.reduceAdd]
 simp only [↓R0,R1,simprocAttr,-Int.reduceAbs,spR3Neg,spR3Add,h1,h2,m2,e2,m3,e3,rv_can,Fin,isEnd,resL,res1,iE,rE]
 exact ⟨_,rfl,rfl,fun k hk=>by simp only [ne_nb hk,if_false]⟩
def spIof:List Value -> Option Value
 | [.bool s,.string ⟨⟨l⟩⟩]=>if bl (nl l)=l then some (.agg ⟨iE (sv s l)⟩) else none
 | _=>none
def c108:ICode:=
 (.seq (.reg [qq 4 (.alloc 70 2 [(.bool false),e0])]) (.seq (.reg [qq 5 (.mv (.t 0)),qq 6 (.mv (.t 5)),⟨(some 7),(some (6,true)),(.mv (.t 1))⟩,⟨(some 8),(some (6,true)),(.bin .neq (.t 7) (.c e0))⟩,qq 9 (.pick (.t 6) (.t 8) (.c (.bool false))),qq 10 (.mv (.t 1)),qq 11 (.build [(.bool false),e0] [(0,1,(.t 9)),(1,1,(.t 10))]),qn (.store 2 (.t 4) (.t 11))]) .ret))
theorem tr108:trFun Tryz.prog 108=some ⟨12,[.cell 4 true 2],c108⟩:=by kernel_rfl
theorem ok_iof:SpecOK Tryz.prog 108 (flat spIof):=by
 refine flat_run (env_nil _) mixed tr108 ?_
 intro args v h N hG
 unfold spIof at hG
 split at hG
 case h_2=>cases hG
 rename_i s l
 split at hG
 case isFalse=>cases hG
 rename_i hl
 cases hG
 refine ⟨rfl,by simp,?_⟩
 rw [iE_sv,hl]
 simp only [c108,G0,Nat.reduceAdd]
 cases s
 ·simp only [↓R0,R1,simprocAttr,-Int.reduceAbs,Bool.false_and,Fin,isEnd,resL,res1,iE,rE]
  exact ⟨_,rfl,rfl,fun k hk=>by simp only [ne_nb hk,if_false]⟩
 ·simp only [↓R0,R1,simprocAttr,-Int.reduceAbs,Bool.true_and,Fin,isEnd,resL,res1,iE,rE]
  exact ⟨_,rfl,rfl,fun k hk=>by simp only [ne_nb hk,if_false]⟩
def spINorm:List Value -> Option Value
 | [.agg ⟨[.bool s,.string ⟨⟨l⟩⟩]⟩]=>if l.length <= 1099511627776 then some (.agg ⟨iE (sv s l)⟩) else none
 | _=>none
def c107:ICode:=
 (.seq (.reg [qq 1 (.box 70 2 (.t 0)),qq 2 (.alloc 70 2 [(.bool false),e0])]) (.seq (.dreg [qu 3 (.faddr 0 (.t 1)),qu 4 (.load false 1 (.t 3)),qu 5 (.faddr 1 (.t 1)),qu 6 (.load false 1 (.t 5)),qu 7 (.call 106 [(.t 6)]),qu 8 (.call 108 [(.t 4),(.t 7)]),qm (.store 2 (.t 2) (.t 8))]) .ret))
theorem tr107:trFun Tryz.prog 107=some ⟨9,[.cell 2 true 2],c107⟩:=by kernel_rfl
theorem sv_nl (s:Bool) (l:List UInt8):sv s (bl (nl l))=sv s l:=by cases s <;> simp [sv,nl_bl]
theorem ok_iNorm:SpecOK Tryz.prog 107 (flat spINorm):=by
 refine flat_run (env_cons ok_iof (env_cons ok_nNorm (env_nil _))) mixed tr107 ?_
 intro args v h N hG
 unfold spINorm at hG
 split at hG
 case h_2=>cases hG
 rename_i s l
 split at hG
 case isFalse=>cases hG
 rename_i hl
 cases hG
 refine ⟨rfl,by simp,?_⟩
 simp only [c107,G0,Nat.reduceAdd]
 simp only [↓R0,R1,simprocAttr,-Int.reduceAbs,spNNorm,spIof,hl,nl_bl,sv_nl,Fin,isEnd,resL,res1,iE,rE]
 exact ⟨_,rfl,rfl,fun k hk=>by simp only [ne_nb hk,if_false]⟩
def spISign:List Value -> Option Value
 | [.agg ⟨[.bool s,.string ⟨⟨l⟩⟩]⟩]=>if l.length <= 1099511627776 then some (.int .i64 (sv s l).sign) else none
 | _=>none
def c90:ICode:=
 (.seq (.reg [qq 1 (.box 70 2 (.t 0)),qq 2 (.mv (ci 0))]) (.seq (.seq (.reg [qq 3 (.load true 2 (.t 1)),qq 4 (.call 107 [(.t 3)]),qn (.store 2 (.t 1) (.t 4))]) (.block 0 (.seq (.reg [qq 6 (.faddr 0 (.t 1)),qq 7 (.load false 1 (.t 6)),qq 5 (.mv (.t 7))]) (.cond (.t 5) (.seq (.reg [qq 2 (.mv (ci (-1)))]) .ret) (.seq (.reg [qq 9 (.faddr 1 (.t 1)),qq 10 (.load false 1 (.t 9)),qq 11 (.bin .neq (.t 10) (.c e0)),qq 8 (.mv (.t 11))]) (.cond (.t 8) (.seq (.reg [qq 2 (.mv (ci 1))]) .ret) .skip)))))) (.seq (.reg [qq 2 (.mv (ci 0))]) .ret)))
theorem tr90:trFun Tryz.prog 90=some ⟨12,[.t 2],c90⟩:=by kernel_rfl
theorem ok_iSign:SpecOK Tryz.prog 90 (flat spISign):=by
 refine flat_run (env_cons ok_iNorm (env_nil _)) mixed tr90 ?_
 intro args v h N hG
 unfold spISign at hG
 split at hG
 case h_2=>cases hG
 rename_i s l
 split at hG
 case isFalse=>cases hG
 rename_i hl
 cases hG
 refine ⟨rfl,by simp,?_⟩
 simp only [c90,G0,Nat.reduceAdd]
 simp only [↓R0,R1,simprocAttr,-Int.reduceAbs,spINorm,hl,iE]
 generalize sv s l=z
 rcases Int.lt_trichotomy z 0 with hz | hz | hz
 ·rw [Int.sign_eq_neg_one_of_neg hz]
  simp only [↓R0,R1,simprocAttr,-Int.reduceAbs,hz,Fin,isEnd,resL,res1,iE,rE]
  exact ⟨_,rfl,rfl,fun k hk=>by simp only [ne_nb hk,if_false]⟩
 ·subst hz
  have z0:bl (Int.natAbs 0)=[]:=bl_zero
  simp only [↓R0,R1,simprocAttr,-Int.reduceAbs,z0,Int.lt_irrefl,Int.sign_zero,Fin,isEnd,resL,res1,iE,rE]
  exact ⟨_,rfl,rfl,fun k hk=>by simp only [ne_nb hk,if_false]⟩
 ·rw [Int.sign_eq_one_of_pos hz]
  have z1:¬ (z < 0):=by omega
  have z2:¬ (bl z.natAbs=[]):=fun e=>by have:=bl_eq_nil.1 e;omega
  simp only [↓R0,R1,simprocAttr,-Int.reduceAbs,z1,z2,Fin,isEnd,resL,res1,iE,rE]
  exact ⟨_,rfl,rfl,fun k hk=>by simp only [ne_nb hk,if_false]⟩
def spINeg:List Value -> Option Value
 | [.agg ⟨[.bool s,.string ⟨⟨l⟩⟩]⟩]=>if l.length <= 1099511627776 then some (.agg ⟨iE (- sv s l)⟩) else none
 | _=>none
def c116:ICode:=
 (.seq (.reg [qq 1 (.box 70 2 (.t 0)),qq 2 (.alloc 70 2 [(.bool false),e0])]) (.seq (.reg [qq 3 (.load true 2 (.t 1)),qq 4 (.call 107 [(.t 3)]),qn (.store 2 (.t 1) (.t 4))]) (.seq (.reg [qq 5 (.faddr 0 (.t 1)),qq 6 (.load false 1 (.t 5)),qq 7 (.un .not (.t 6)),qq 8 (.faddr 1 (.t 1)),qq 9 (.load false 1 (.t 8)),qq 10 (.call 108 [(.t 7),(.t 9)]),qn (.store 2 (.t 2) (.t 10))]) .ret)))
theorem tr116:trFun Tryz.prog 116=some ⟨11,[.cell 2 true 2],c116⟩:=by kernel_rfl
theorem ok_iNeg:SpecOK Tryz.prog 116 (flat spINeg):=by
 refine flat_run (env_cons ok_iof (env_cons ok_iNorm (env_nil _))) mixed tr116 ?_
 intro args v h N hG
 unfold spINeg at hG
 split at hG
 case h_2=>cases hG
 rename_i s l
 split at hG
 case isFalse=>cases hG
 rename_i hl
 cases hG
 refine ⟨rfl,by simp,?_⟩
 have hz:sv (!decide (sv s l < 0)) (bl (sv s l).natAbs)=- sv s l:=by rw [sv_neg,sv_can]
 simp only [c116,G0,Nat.reduceAdd]
 simp only [↓R0,R1,simprocAttr,-Int.reduceAbs,spINorm,spIof,hl,nl_bl,hz,Fin,isEnd,resL,res1,iE,rE]
 exact ⟨_,rfl,rfl,fun k hk=>by simp only [ne_nb hk,if_false]⟩
def spIFrom:List Value -> Option Value
 | [.int .i64 n]=>if -9223372036854775808 <= n /\ n <= 9223372036854775807 then some (.agg ⟨iE n⟩) else none
 | _=>none
def c88:ICode:=
 (.seq (.reg [qq 2 (.alloc 70 2 [(.bool false),e0])]) (.seq (.seq (.reg [qq 3 (.mv (.t 0)),qq 4 (.bin .lss (.t 3) (ci 0))]) (.cond (.t 4) (.seq (.reg [qq 5 (.mv (.t 0)),qq 6 (.bin .add (.t 5) (ci 1)),qq 7 (.un .neg (.t 6)),qq 8 (.conv .u64 (.t 7)),qq 9 (.bin .add (.t 8) (.c (.int .u64 1))),qq 10 (.call 112 [(.t 9)]),qq 11 (.call 108 [(.c (.bool true)),(.t 10)]),qn (.store 2 (.t 2) (.t 11))]) .ret) .skip)) (.seq (.reg [qq 12 (.mv (.t 0)),qq 13 (.conv .u64 (.t 12)),qq 14 (.call 112 [(.t 13)]),qq 15 (.call 108 [(.c (.bool false)),(.t 14)]),qn (.store 2 (.t 2) (.t 15))]) .ret)))
theorem tr88:trFun Tryz.prog 88=some ⟨16,[.cell 2 true 2],c88⟩:=by kernel_rfl
theorem ok_iFrom:SpecOK Tryz.prog 88 (flat spIFrom):=by
 refine flat_run (env_cons ok_iof (env_cons ok_nFU64 (env_nil _))) mixed tr88 ?_
 intro args v h N hG
 unfold spIFrom at hG
 split at hG
 case h_2=>cases hG
 rename_i n
 split at hG
 case isFalse=>cases hG
 rename_i hl
 cases hG
 refine ⟨rfl,by simp,?_⟩
 simp only [c88,G0,Nat.reduceAdd]
 simp only [↓R0,R1,simprocAttr,-Int.reduceAbs]
 refine cd_case (fun hb=>?_) (fun hb=>?_)
 ·have hn:n < 0:=by simpa using hb
  have hz:sv true (bl n.natAbs)=n:=by rw [sv_true,nl_bl];omega
  have e1:IntKind.i64.wrap (n+1)=n+1:=by rw [i64_in _ (by omega)]
  have e2:IntKind.i64.wrap (0 - (n+1))=(n.natAbs:Int) - 1:=by rw [i64_in _ (by omega)];omega
  have e3:IntKind.u64.wrap ((n.natAbs:Int) - 1)=(n.natAbs:Int) - 1:=by rw [u64_in _ (by omega)]
  have e4:IntKind.u64.wrap ((n.natAbs:Int) - 1+1)=(n.natAbs:Int):=by rw [u64_in _ (by omega)];omega
  have e5:(n.natAbs:Int) < 18446744073709551616:=by omega
  simp only [↓R0,R1,simprocAttr,-Int.reduceAbs,e1,e2,e3,e4,e5,spFU64,spIof,nl_bl,hz,Fin,isEnd,resL,res1,iE,rE]
  exact ⟨_,rfl,rfl,fun k hk=>by simp only [ne_nb hk,if_false]⟩
 ·have hn:0 <= n:=by simpa using hb
  have hz:sv false (bl n.natAbs)=n:=by rw [sv_false,nl_bl];omega
  have e3:IntKind.u64.wrap n=(n.natAbs:Int):=by rw [u64_in _ (by omega)];omega
  have e5:(n.natAbs:Int) < 18446744073709551616:=by omega
  simp only [↓R0,R1,simprocAttr,-Int.reduceAbs,e3,e5,spFU64,spIof,nl_bl,hz,Fin,isEnd,resL,res1,iE,rE]
  exact ⟨_,rfl,rfl,fun k hk=>by simp only [ne_nb hk,if_false]⟩
def spIAdd:List Value -> Option Value
 | [.agg ⟨[.bool s,.string ⟨⟨l⟩⟩]⟩,.agg ⟨[.bool t,.string ⟨⟨m⟩⟩]⟩]=>if l.length <= 68719476736 /\ m.length <= 68719476736 then some (.agg ⟨iE (sv s l+sv t m)⟩) else none
 | _=>none
def c86:ICode:=
 (.seq (.reg [qq 2 (.box 70 2 (.t 0)),qq 3 (.box 70 2 (.t 1)),qq 4 (.alloc 70 2 [(.bool false),e0])]) (.seq (.dreg [qu 9 (.load true 2 (.t 2)),qu 10 (.call 107 [(.t 9)]),qv 11 [1] (.load true 2 (.t 3)),qu 12 (.call 107 [(.t 11)]),qm (.store 2 (.t 2) (.t 10)),qm (.store 2 (.t 3) (.t 12))]) (.seq (.seq (.reg [qq 13 (.faddr 0 (.t 2)),qq 14 (.load false 1 (.t 13)),qq 15 (.faddr 0 (.t 3)),qq 16 (.load false 1 (.t 15)),qq 17 (.eqb false (.t 14) (.t 16))]) (.cond (.t 17) (.seq (.dreg [qu 18 (.faddr 0 (.t 2)),qu 19 (.load false 1 (.t 18)),qu 20 (.faddr 1 (.t 2)),qu 21 (.load false 1 (.t 20)),qu 22 (.faddr 1 (.t 3)),qu 23 (.load false 1 (.t 22)),qu 24 (.call 109 [(.t 21),(.t 23)]),qu 25 (.call 108 [(.t 19),(.t 24)]),qm (.store 2 (.t 4) (.t 25))]) .ret) .skip)) (.seq (.seq (.reg [qq 27 (.faddr 1 (.t 2)),qq 28 (.load false 1 (.t 27)),qq 29 (.faddr 1 (.t 3)),qq 30 (.load false 1 (.t 29)),qq 31 (.call 110 [(.t 28),(.t 30)]),qq 26 (.mv (.t 31)),qq 32 (.ext (.t 26) 0),qq 33 (.ext (.t 26) 1),qq 5 (.mv (.t 32)),qq 6 (.mv (.t 33))]) (.seq (.reg [qq 34 (.mv (.t 6))]) (.cond (.t 34) (.seq (.reg [qq 35 (.faddr 0 (.t 2)),qq 36 (.load false 1 (.t 35)),qq 37 (.mv (.t 5)),qq 38 (.call 108 [(.t 36),(.t 37)]),qn (.store 2 (.t 4) (.t 38))]) .ret) .skip))) (.seq (.reg [qq 40 (.faddr 1 (.t 3)),qq 41 (.load false 1 (.t 40)),qq 42 (.faddr 1 (.t 2)),qq 43 (.load false 1 (.t 42)),qq 44 (.call 110 [(.t 41),(.t 43)]),qq 39 (.mv (.t 44)),qq 45 (.ext (.t 39) 0),qq 46 (.ext (.t 39) 1),qq 7 (.mv (.t 45)),qq 8 (.mv (.t 46))]) (.seq (.reg [qq 47 (.faddr 0 (.t 3)),qq 48 (.load false 1 (.t 47)),qq 49 (.mv (.t 7)),qq 50 (.call 108 [(.t 48),(.t 49)]),qn (.store 2 (.t 4) (.t 50))]) .ret))))))
theorem tr86:trFun Tryz.prog 86=some ⟨51,[.cell 4 true 2],c86⟩:=by kernel_rfl
theorem iadd_same {x y:Int} (h:decide (x < 0)=decide (y < 0)):sv (decide (y < 0)) (bl (x.natAbs+y.natAbs))=x+y:=by
 rw [sv_bl]
 by_cases hx:x < 0
 ·have hy:y < 0:=by simpa [hx] using h
  simp [hy];omega
 ·have hy:¬ y < 0:=by simpa [hx] using h
  simp [hy];omega
theorem iadd_diff {x y:Int} (h:¬ decide (x < 0)=decide (y < 0)) :
  (x.natAbs < y.natAbs -> sv (decide (y < 0)) (bl (y.natAbs - x.natAbs))=x+y) /\ (¬ x.natAbs < y.natAbs -> sv (decide (x < 0)) (bl (x.natAbs - y.natAbs))=x+y):=by
 rw [sv_bl,sv_bl]
 by_cases hx:x < 0
 ·have hy:¬ y < 0:=by simpa [hx] using h
  constructor
  ·intro g;simp [hy];omega
  ·intro g;simp [hx];omega
 ·have hy:y < 0:=by simpa [hx] using h
  constructor
  ·intro g;simp [hy];omega
  ·intro g;simp [hx];omega
theorem ok_iAdd:SpecOK Tryz.prog 86 (flat spIAdd):=by
 refine flat_run (env_cons ok_iof (env_cons ok_iNorm (env_cons ok_nAdd (env_cons ok_nSub (env_nil _))))) mixed tr86 ?_
 intro args v h N hG
 unfold spIAdd at hG
 split at hG
 case h_2=>cases hG
 rename_i s l t m
 split at hG
 case isFalse=>cases hG
 rename_i hl
 obtain ⟨hl,hm⟩:=hl
 cases hG
 refine ⟨rfl,by simp,?_⟩
 have hl':l.length <= 1099511627776:=by omega
 have hm':m.length <= 1099511627776:=by omega
 have n1:=len_sv (s:=s) hl
 have n2:=len_sv (s:=t) hm
 simp only [c86,G0,Nat.reduceAdd]
 simp only [↓R0,R1,simprocAttr,-Int.reduceAbs,spINorm,hl',hm',iE]
 generalize sv s l=x at *
 generalize sv t m=y at *
 by_cases hst:decide (x < 0)=decide (y < 0)
 ·have hz:=iadd_same hst
  simp only [↓R0,R1,simprocAttr,-Int.reduceAbs,hst,spNAdd,n1,n2,nl_bl,spIof,hz,Fin,isEnd,resL,res1,iE,rE]
  exact ⟨_,rfl,rfl,fun k hk=>by simp only [ne_nb hk,if_false]⟩
 ·obtain ⟨d1,d2⟩:=iadd_diff hst
  by_cases hlt:x.natAbs < y.natAbs
  ·have hlt2:¬ y.natAbs < x.natAbs:=by omega
   have hz:=d1 hlt
   simp only [↓R0,R1,simprocAttr,-Int.reduceAbs,hst,spNSub,n1,n2,nl_bl,hlt,hlt2,spIof,hz,Fin,isEnd,resL,res1,iE,rE]
   exact ⟨_,rfl,rfl,fun k hk=>by simp only [ne_nb hk,if_false]⟩
  ·have hz:=d2 hlt
   simp only [↓R0,R1,simprocAttr,-Int.reduceAbs,hst,spNSub,n1,n2,nl_bl,hlt,spIof,hz,Fin,isEnd,resL,res1,iE,rE]
   exact ⟨_,rfl,rfl,fun k hk=>by simp only [ne_nb hk,if_false]⟩
def spIMul:List Value -> Option Value
 | [.agg ⟨[.bool s,.string ⟨⟨l⟩⟩]⟩,.agg ⟨[.bool t,.string ⟨⟨m⟩⟩]⟩]=>if l.length <= 34359738368 /\ m.length <= 34359738368 then some (.agg ⟨iE (sv s l * sv t m)⟩) else none
 | _=>none
def c87:ICode:=
 (.seq (.reg [qq 2 (.box 70 2 (.t 0)),qq 3 (.box 70 2 (.t 1)),qq 4 (.alloc 70 2 [(.bool false),e0])]) (.seq (.dreg [qu 5 (.load true 2 (.t 2)),qu 6 (.call 107 [(.t 5)]),qv 7 [1] (.load true 2 (.t 3)),qu 8 (.call 107 [(.t 7)]),qm (.store 2 (.t 2) (.t 6)),qm (.store 2 (.t 3) (.t 8))]) (.seq (.dreg [qu 9 (.faddr 0 (.t 2)),qu 10 (.load false 1 (.t 9)),qu 11 (.faddr 0 (.t 3)),qu 12 (.load false 1 (.t 11)),qu 13 (.eqb true (.t 10) (.t 12)),qu 14 (.faddr 1 (.t 2)),qu 15 (.load false 1 (.t 14)),qu 16 (.faddr 1 (.t 3)),qu 17 (.load false 1 (.t 16)),qu 18 (.call 111 [(.t 15),(.t 17)]),qu 19 (.call 108 [(.t 13),(.t 18)]),qm (.store 2 (.t 4) (.t 19))]) .ret)))
theorem tr87:trFun Tryz.prog 87=some ⟨20,[.cell 4 true 2],c87⟩:=by kernel_rfl
theorem imul_sv (x y:Int):sv (decide (¬ decide (x < 0)=decide (y < 0))) (bl (x.natAbs * y.natAbs))=x * y:=by
 have:=sv_mul (decide (x < 0)) (decide (y < 0)) (bl x.natAbs) (bl y.natAbs)
 rw [sv_can,sv_can,nl_bl,nl_bl] at this
 exact this
theorem ok_iMul:SpecOK Tryz.prog 87 (flat spIMul):=by
 refine flat_run (env_cons ok_iof (env_cons ok_iNorm (env_cons ok_nMul (env_nil _)))) mixed tr87 ?_
 intro args v h N hG
 unfold spIMul at hG
 split at hG
 case h_2=>cases hG
 rename_i s l t m
 split at hG
 case isFalse=>cases hG
 rename_i hl
 obtain ⟨hl,hm⟩:=hl
 cases hG
 refine ⟨rfl,by simp,?_⟩
 have hl':l.length <= 1099511627776:=by omega
 have hm':m.length <= 1099511627776:=by omega
 have n1:=len_sv (s:=s) hl
 have n2:=len_sv (s:=t) hm
 have hz:=imul_sv (sv s l) (sv t m)
 simp only [c87,G0,Nat.reduceAdd]
 simp only [↓R0,R1,simprocAttr,-Int.reduceAbs,spINorm,spNMul,spIof,hl',hm',n1,n2,nl_bl,hz,Fin,isEnd,resL,res1,iE,rE]
 exact ⟨_,rfl,rfl,fun k hk=>by simp only [ne_nb hk,if_false]⟩
end Go.Eng
end
section
set_option maxRecDepth 8000
namespace Go.Eng
open Go Go.Proofs Go.IntWalk
def spQParts:List Value -> Option Value
 | [.agg ⟨[.bool s,.string ⟨⟨n⟩⟩,.string ⟨⟨d⟩⟩]⟩]=>if n.length <= 1099511627776 /\ d.length <= 1099511627776 then some (.tuple ⟨[.agg ⟨iE (sv s n)⟩,.agg ⟨iE (dv d)⟩]⟩) else none
 | _=>none
def c84:ICode:=
 (.seq (.reg [qq 1 (.box 38 3 (.t 0)),qq 2 (.alloc 70 2 [(.bool false),e0]),qq 3 (.alloc 70 2 [(.bool false),e0])]) (.seq (.reg [qq 5 (.faddr 2 (.t 1)),qq 6 (.load false 1 (.t 5)),qq 7 (.call 106 [(.t 6)]),qq 8 (.build [(.bool false),e0] [(1,1,(.t 7))]),qq 4 (.alloc 70 2 [(.bool false),e0]),qn (.store 2 (.t 4) (.t 8))]) (.seq (.seq (.reg [qq 9 (.faddr 1 (.t 4)),qq 10 (.load false 1 (.t 9)),qq 11 (.bin .eql (.t 10) (.c e0))]) (.cond (.t 11) (.reg [qq 12 (.call 88 [(ci 1)]),qn (.store 2 (.t 4) (.t 12))]) .skip)) (.seq (.dreg [qu 13 (.faddr 0 (.t 1)),qu 14 (.load false 1 (.t 13)),qu 15 (.faddr 1 (.t 1)),qu 16 (.load false 1 (.t 15)),qu 17 (.build [(.bool false),e0] [(0,1,(.t 14)),(1,1,(.t 16))]),qu 18 (.call 107 [(.t 17)]),qv 19 [5] (.load true 2 (.t 4)),⟨none,none,[1006],(.store 2 (.t 2) (.t 18))⟩,qm (.store 2 (.t 3) (.t 19))]) .ret))))
theorem tr84:trFun Tryz.prog 84=some ⟨20,[.cell 2 true 2,.cell 3 true 2],c84⟩:=by kernel_rfl
theorem ok_qParts:SpecOK Tryz.prog 84 (flat spQParts):=by
 refine flat_run (env_cons ok_nNorm (env_cons ok_iFrom (env_cons ok_iNorm (env_nil _)))) mixed tr84 ?_
 intro args v h N hG
 unfold spQParts at hG
 split at hG
 case h_2=>cases hG
 rename_i s n d
 split at hG
 case isFalse=>cases hG
 rename_i hl
 obtain ⟨h1,h2⟩:=hl
 cases hG
 refine ⟨rfl,by simp,?_⟩
 by_cases h0:nl d=0
 ·have e1:bl (nl d)=[]:=by rw [h0,bl_zero]
  have e2:dv d=1:=by unfold dv;rw [if_pos h0]
  simp only [c84,G0,Nat.reduceAdd]
  simp only [↓R0,R1,simprocAttr,-Int.reduceAbs,spNNorm,h1,h2,e1,e2,spIFrom,spINorm,iE,Fin,isEnd,resL,res1,iE,rE]
  exact ⟨_,rfl,rfl,fun k hk=>by simp only [ne_nb hk,if_false]⟩
 ·have e1:(bl (nl d)=[])=False:=eq_false (fun e=>h0 (bl_eq_nil.1 e))
  have e2:dv d=(nl d:Int):=by unfold dv;rw [if_neg h0]
  have e3:¬ ((nl d:Int) < 0):=by omega
  simp only [c84,G0,Nat.reduceAdd]
  simp only [↓R0,R1,simprocAttr,-Int.reduceAbs,spNNorm,h1,h2,e1,e2,e3,spIFrom,spINorm,iE,Int.natAbs_natCast,Fin,isEnd,resL,res1,iE,rE]
  exact ⟨_,rfl,rfl,fun k hk=>by simp only [ne_nb hk,if_false]⟩
def spQLeast:List Value -> Heap -> Option Value
 | [.string ⟨⟨l⟩⟩,.pointer (some ⟨k,0,none⟩)],h=>match hget h k with
  | some ⟨_,_,_,[.string ⟨⟨m⟩⟩]⟩=>if l.length <= 34359738368 /\ m.length <= 34359738368 /\ nl m ≠ 0 then some (.string ⟨⟨bl (nl l / nl m)⟩⟩) else none
  | _=>none
 | _,_=>none
def c114:ICode:=
 (.seq (.reg [qq 3 (.mv (.c e0))]) (.seq (.reg [qq 8 (.mv (.t 0)),qq 9 (.load false 1 (.t 1)),qq 10 (.call 115 [(.t 8),(.t 9)]),qq 7 (.mv (.t 10)),qq 11 (.ext (.t 7) 0),qq 12 (.ext (.t 7) 1),qq 13 (.ext (.t 7) 2),qq 4 (.mv (.t 11)),qq 5 (.mv (.t 12)),qq 6 (.mv (.t 13))]) (.seq (.reg [qq 14 (.mv (.t 4)),qq 3 (.mv (.t 14))]) .ret)))
theorem tr114:trFun Tryz.prog 114=some ⟨15,[.t 3],c114⟩:=by kernel_rfl
theorem ok_qLeast:SpecOK Tryz.prog 114 (rdS spQLeast):=by
 refine rd_run (env_cons ok_nDiv (env_nil _)) mixed tr114 ?_ ?_
 ·intro args h h' v hle e
  unfold spQLeast at e ⊢
  split at e
  ·split at e
   ·rename_i b1
    simp only [hle _ _ b1];exact e
   ·cases e
  ·cases e
 intro args v h N hG hN
 unfold spQLeast at hG
 split at hG
 case h_2=>cases hG
 rename_i l k
 split at hG
 case h_2=>cases hG
 rename_i e1 z1 x1 m hb1
 split at hG
 case isFalse=>cases hG
 rename_i hl
 obtain ⟨h1,h2,h3⟩:=hl
 have h4:=eq_false h3
 cases hG
 refine ⟨rfl,by simp,?_⟩
 simp only [c114,G0,Nat.reduceAdd]
 simp only [↓R0,R1,simprocAttr,-Int.reduceAbs,hb1,spNDiv,h1,h2,h4,Fin,isEnd,resL,res1,iE,rE]
 exact ⟨_,rfl,rfl,fun k hk=>by simp only [ne_nb hk,if_false]⟩
def spQMake:List Value -> Option Value
 | [.agg ⟨[.bool s,.string ⟨⟨l⟩⟩]⟩,.agg ⟨[.bool t,.string ⟨⟨m⟩⟩]⟩]=>if l.length <= 34359738368 /\ m.length <= 34359738368 then
   (if nl m=0 then some (.tuple ⟨[.agg ⟨[.bool false,.string ⟨⟨[]⟩⟩,.string ⟨⟨[]⟩⟩]⟩,.bool false]⟩) else
    some (.tuple ⟨[.agg ⟨rE (Rat.divInt (sv s l) (sv t m))⟩,.bool true]⟩)) else none
 | _=>none
def c91:ICode:=
 (.seq (.reg [qq 2 (.box 70 2 (.t 0)),qq 3 (.box 70 2 (.t 1)),qq 4 (.alloc 38 3 [(.bool false),e0,e0]),qq 5 (.mv (.c (.bool false)))]) (.seq (.seq (.reg [qq 9 (.load true 2 (.t 3)),qq 10 (.call 90 [(.t 9)]),qq 11 (.bin .eql (.t 10) (ci 0))]) (.cond (.t 11) (.seq (.reg [qq 12 (.build [(.bool false),e0,e0] []),qn (.store 3 (.t 4) (.t 12)),qq 5 (.mv (.c (.bool false)))]) .ret) .skip)) (.seq (.seq (.reg [qq 13 (.load true 2 (.t 2)),qq 14 (.call 90 [(.t 13)]),qq 15 (.bin .eql (.t 14) (ci 0))]) (.cond (.t 15) (.seq (.reg [qq 16 (.build [(.bool false),e0,e0] []),qn (.store 3 (.t 4) (.t 16)),qq 5 (.mv (.c (.bool true)))]) .ret) .skip)) (.seq (.reg [qq 17 (.faddr 1 (.t 2)),qq 18 (.load false 1 (.t 17)),qq 19 (.faddr 1 (.t 3)),qq 20 (.load false 1 (.t 19)),qq 21 (.call 113 [(.t 18),(.t 20)]),qq 6 (.alloc 9 1 [e0]),qn (.store 1 (.t 6) (.t 21))]) (.seq (.reg [qq 22 (.mkfn 114 [(.t 6)]),qq 7 (.mv (.t 22))]) (.seq (.dreg [qu 23 (.faddr 0 (.t 2)),qu 24 (.load false 1 (.t 23)),qu 25 (.faddr 0 (.t 3)),qu 26 (.load false 1 (.t 25)),qu 27 (.eqb true (.t 24) (.t 26)),qu 28 (.mv (.t 7)),qu 29 (.faddr 1 (.t 2)),qu 30 (.load false 1 (.t 29)),qu 31 (.callv (.t 28) [(.t 30)]),qu 32 (.mv (.t 7)),qu 33 (.faddr 1 (.t 3)),qv 34 [8] (.load false 1 (.t 33)),qu 35 (.callv (.t 32) [(.t 34)]),qu 36 (.build [(.bool false),e0,e0] [(0,1,(.t 27)),(1,1,(.t 31)),(2,1,(.t 35))]),qu 8 (.alloc 38 3 [(.bool false),e0,e0]),qm (.store 3 (.t 8) (.t 36))]) (.seq (.seq (.reg [qq 37 (.faddr 2 (.t 8)),qq 38 (.load false 1 (.t 37)),qq 39 (.bin .eql (.t 38) (.c (.string ⟨⟨[1]⟩⟩)))]) (.cond (.t 39) (.reg [qq 40 (.faddr 2 (.t 8)),qn (.store 1 (.t 40) (.c e0))]) .skip)) (.seq (.reg [qq 41 (.load true 3 (.t 8)),qn (.store 3 (.t 4) (.t 41)),qq 5 (.mv (.c (.bool true)))]) .ret))))))))
theorem tr91:trFun Tryz.prog 91=some ⟨42,[.cell 4 true 3,.t 5],c91⟩:=by kernel_rfl
theorem sv_neg_iff {s:Bool} {l:List UInt8} (h:nl l ≠ 0):decide (sv s l < 0)=s:=by
 unfold sv;cases s <;> simp <;> omega
set_option maxHeartbeats 1000000 in
theorem ok_qMake:SpecOK Tryz.prog 91 (flat spQMake):=by
 refine flat_run (env_cons ok_iSign (env_cons ok_nGcd (env_cons ok_qLeast (env_nil _)))) mixed tr91 ?_
 intro args v h N hG
 unfold spQMake at hG
 split at hG
 case h_2=>cases hG
 rename_i s l t m
 split at hG
 case isFalse=>cases hG
 rename_i hl
 obtain ⟨hl,hm⟩:=hl
 have l2:l.length <= 1099511627776:=by omega
 have m2:m.length <= 1099511627776:=by omega
 split at hG
 ·rename_i h0
  have e0:sv t m=0:=(sv_eq_zero t m).2 h0
  cases hG
  refine ⟨rfl,by simp,?_⟩
  simp only [c91,G0,Nat.reduceAdd]
  simp only [↓R0,R1,simprocAttr,-Int.reduceAbs,spISign,l2,m2,e0,Int.sign_zero,Fin,isEnd,resL,res1,iE,rE]
  exact ⟨_,rfl,rfl,fun k hk=>by simp only [ne_nb hk,if_false]⟩
 rename_i h0
 have hD:sv t m ≠ 0:=fun e=>h0 ((sv_eq_zero t m).1 e)
 have hD':((sv t m).sign=0)=False:=eq_false (fun e=>hD (Int.sign_eq_zero_iff_zero.1 e))
 by_cases hn:nl l=0
 ·have e0:sv s l=0:=(sv_eq_zero s l).2 hn
  have rz:rE 0=[.bool false,.string ⟨⟨[]⟩⟩,.string ⟨⟨[]⟩⟩]:=by simp [rE,bl_zero]
  rw [e0,Rat.zero_divInt,rz] at hG
  cases hG
  refine ⟨rfl,by simp,?_⟩
  simp only [c91,G0,Nat.reduceAdd]
  simp only [↓R0,R1,simprocAttr,-Int.reduceAbs,spISign,l2,m2,e0,hD',Int.sign_zero,Fin,isEnd,resL,res1,iE,rE]
  exact ⟨_,rfl,rfl,fun k hk=>by simp only [ne_nb hk,if_false]⟩
 have hN:sv s l ≠ 0:=fun e=>hn ((sv_eq_zero s l).1 e)
 have hN':((sv s l).sign=0)=False:=eq_false (fun e=>hN (Int.sign_eq_zero_iff_zero.1 e))
 cases hG
 refine ⟨rfl,by simp,?_⟩
 obtain ⟨d1,d2,d3⟩:=divInt_cells (N:=sv s l) hD
 rw [sv_natAbs,sv_natAbs] at d1 d2
 have hst:decide ((Rat.divInt (sv s l) (sv t m)).num < 0)=decide (s ≠ t):=by
  rw [Bool.eq_iff_iff]
  simp only [decide_eq_true_eq,d3,sv_neg_iff hn,sv_neg_iff h0,and_iff_left hN]
 unfold rE
 rw [hst,d1,d2]
 clear hst d1 d2 d3
 have hG0:0 < (nl l).gcd (nl m):=Nat.gcd_pos_of_pos_right _ (by omega)
 have lG:(bl ((nl l).gcd (nl m))).length <= 34359738368:=Nat.le_trans (bl_length_mono (Nat.gcd_le_right _ (by omega))) (Nat.le_trans (bl_length_nl m) hm)
 generalize hGG:(nl l).gcd (nl m)=G at *
 have f2:¬ (G=0):=by omega
 have f10:(bl (nl m / G)=[1])=(nl m / G=1):=propext ⟨fun e=>bl_inj (e.trans (by decide +kernel:([1]:List UInt8)=bl 1)),fun e=>by rw [e];decide +kernel⟩
 simp only [c91,G0,Nat.reduceAdd]
 simp only [↓R0,R1,simprocAttr,-Int.reduceAbs,spISign,l2,m2,hD',hN',spNGcd,hl,hm,hGG,rdS,callF,spQLeast,nl_bl,lG,f2,f10]
 by_cases c3:nl m / G=1
 ·simp only [↓R0,R1,simprocAttr,-Int.reduceAbs,c3,Fin,isEnd,resL,res1,iE,rE]
  exact ⟨_,rfl,rfl,fun k hk=>by simp only [ne_nb hk,if_false]⟩
 ·simp only [↓R0,R1,simprocAttr,-Int.reduceAbs,c3,Fin,isEnd,resL,res1,iE,rE]
  exact ⟨_,rfl,rfl,fun k hk=>by simp only [ne_nb hk,if_false]⟩
def c85:ICode:=
 (.seq (.reg [qq 2 (.box 70 2 (.t 0)),qq 3 (.box 70 2 (.t 1)),qq 4 (.alloc 38 3 [(.bool false),e0,e0])]) (.seq (.reg [qq 8 (.load true 2 (.t 2)),qq 9 (.load true 2 (.t 3)),qq 10 (.call 91 [(.t 8),(.t 9)]),qq 7 (.mv (.t 10)),qq 11 (.ext (.t 7) 0),qq 12 (.ext (.t 7) 1),qq 5 (.alloc 38 3 [(.bool false),e0,e0]),qn (.store 3 (.t 5) (.t 11)),qq 6 (.mv (.t 12))]) (.seq (.reg [qq 13 (.load true 3 (.t 5)),qn (.store 3 (.t 4) (.t 13))]) .ret)))
theorem tr85:trFun Tryz.prog 85=some ⟨14,[.cell 4 true 3],c85⟩:=by kernel_rfl
def spQMade:List Value -> Option Value
 | [.agg ⟨[.bool s,.string ⟨⟨l⟩⟩]⟩,.agg ⟨[.bool t,.string ⟨⟨m⟩⟩]⟩]=>if l.length <= 34359738368 /\ m.length <= 34359738368 /\ nl m ≠ 0 then
   some (.agg ⟨rE (Rat.divInt (sv s l) (sv t m))⟩) else none
 | _=>none
theorem ok_qMade:SpecOK Tryz.prog 85 (flat spQMade):=by
 refine flat_run (env_cons ok_qMake (env_nil _)) mixed tr85 ?_
 intro args v h N hG
 unfold spQMade at hG
 split at hG
 case h_2=>cases hG
 rename_i s l t m
 split at hG
 case isFalse=>cases hG
 rename_i hl
 obtain ⟨h1,h2,h3⟩:=hl
 have h4:=eq_false h3
 cases hG
 refine ⟨rfl,by simp,?_⟩
 simp only [c85,G0,Nat.reduceAdd]
 simp only [↓R0,R1,simprocAttr,-Int.reduceAbs,spQMake,h1,h2,h4,Fin,isEnd,resL,res1,iE,rE]
 exact ⟨_,rfl,rfl,fun k hk=>by simp only [ne_nb hk,if_false]⟩
def spQNorm:List Value -> Option Value
 | [.agg ⟨[.bool s,.string ⟨⟨n⟩⟩,.string ⟨⟨d⟩⟩]⟩]=>if n.length <= 17179869184 /\ d.length <= 17179869184 then some (.agg ⟨rE (rv s n d)⟩) else none
 | _=>none
def c60:ICode:=
 (.seq (.reg [qq 1 (.box 38 3 (.t 0)),qq 2 (.alloc 38 3 [(.bool false),e0,e0])]) (.seq (.reg [qq 3 (.load true 3 (.t 1)),qq 4 (.call 84 [(.t 3)]),qq 5 (.ext (.t 4) 0),qq 6 (.ext (.t 4) 1),qq 7 (.call 85 [(.t 5),(.t 6)]),qn (.store 3 (.t 2) (.t 7))]) .ret))
theorem tr60:trFun Tryz.prog 60=some ⟨8,[.cell 2 true 3],c60⟩:=by kernel_rfl
theorem ok_qNorm:SpecOK Tryz.prog 60 (flat spQNorm):=by
 refine flat_run (env_cons ok_qParts (env_cons ok_qMade (env_nil _))) mixed tr60 ?_
 intro args v h N hG
 unfold spQNorm at hG
 split at hG
 case h_2=>cases hG
 rename_i s n d
 split at hG
 case isFalse=>cases hG
 rename_i hl
 obtain ⟨h1,h2⟩:=hl
 cases hG
 refine ⟨rfl,by simp,?_⟩
 have n2:n.length <= 1099511627776:=by omega
 have d2:d.length <= 1099511627776:=by omega
 have n3:(bl (sv s n).natAbs).length <= 34359738368:=by rw [sv_natAbs];exact Nat.le_trans (bl_length_nl n) (by omega)
 have d3:(bl (dv d).natAbs).length <= 34359738368:=Nat.le_trans (bl_dv d) (by omega)
 have d4:=dv_nl d
 unfold rv
 simp only [c60,G0,Nat.reduceAdd]
 simp only [↓R0,R1,simprocAttr,-Int.reduceAbs,spQParts,n2,d2,spQMade,n3,d3,d4,nl_bl,Fin,isEnd,resL,res1,iE,rE]
 exact ⟨_,rfl,rfl,fun k hk=>by simp only [ne_nb hk,if_false]⟩
end Go.Eng
end
section
namespace Go.Eng
def RB (q:Rat) (k:Nat):Prop:=(bl q.num.natAbs).length <= k /\ (bl q.den).length <= k
theorem divInt_RB {N D:Int} {k:Nat} (hD:D ≠ 0) (h1:(bl N.natAbs).length <= k) (h2:(bl D.natAbs).length <= k):RB (Rat.divInt N D) k:=by
 obtain ⟨g1,g2,_⟩:=divInt_cells (N:=N) (D:=D) hD
 unfold RB
 rw [g1,g2]
 exact ⟨Nat.le_trans (bl_length_mono (Nat.div_le_self _ _)) h1,Nat.le_trans (bl_length_mono (Nat.div_le_self _ _)) h2⟩
theorem Lmul {a b:Int} {i j:Nat} (ha:(bl a.natAbs).length <= i) (hb:(bl b.natAbs).length <= j):(bl (a * b).natAbs).length <= i+j:=by
 rw [Int.natAbs_mul];exact Nat.le_trans (bl_length_mul _ _) (by omega)
theorem Ladd {a b:Int} {k:Nat} (ha:(bl a.natAbs).length <= k) (hb:(bl b.natAbs).length <= k):(bl (a+b).natAbs).length <= k+1:=
 Nat.le_trans (bl_length_mono (Int.natAbs_add_le a b)) (bl_length_add ha hb)
theorem RB.mul {p q:Rat} {i j k:Nat} (hp:RB p i) (hq:RB q j) (h:i+j <= k):RB (p * q) k:=by
 have hp0:=p.den_nz
 have hq0:=q.den_nz
 conv=>lhs;rw [<- Rat.num_divInt_den p,<- Rat.num_divInt_den q,Rat.divInt_mul_divInt]
 refine divInt_RB (by rw [<- Int.natCast_mul];simp [hp0,hq0]) (Nat.le_trans (Lmul hp.1 hq.1) h) ?_
 exact Nat.le_trans (Lmul (a:=(p.den:Int)) (b:=(q.den:Int)) hp.2 hq.2) h
theorem RB.add {p q:Rat} {i j k:Nat} (hp:RB p i) (hq:RB q j) (h:i+j+1 <= k):RB (p+q) k:=by
 have hp0:=p.den_nz
 have hq0:=q.den_nz
 conv=>lhs;rw [<- Rat.num_divInt_den p,<- Rat.num_divInt_den q,Rat.divInt_add_divInt _ _ (by simp [hp0]) (by simp [hq0])]
 refine divInt_RB (by rw [<- Int.natCast_mul];simp [hp0,hq0]) ?_ ?_
 ·refine Nat.le_trans (Ladd (k:=i+j) (Lmul (b:=(q.den:Int)) hp.1 hq.2) ?_) h
  exact Nat.le_trans (Lmul (b:=(p.den:Int)) hq.1 hp.2) (by omega)
 ·exact Nat.le_trans (Lmul (a:=(p.den:Int)) (b:=(q.den:Int)) hp.2 hq.2) (by omega)
theorem RB.neg {p:Rat} {i:Nat} (hp:RB p i):RB (-p) i:=by
 unfold RB;rw [Rat.neg_num,Rat.neg_den,Int.natAbs_neg];exact hp
theorem RB.sub {p q:Rat} {i j k:Nat} (hp:RB p i) (hq:RB q j) (h:i+j+1 <= k):RB (p - q) k:=by
 rw [Rat.sub_eq_add_neg];exact hp.add hq.neg h
theorem RB.inv {p:Rat} {i:Nat} (hp:RB p i) (h1:1 <= i):RB p⁻¹ i:=by
 by_cases h:p=0
 ·subst h
  have e:((0:Rat)⁻¹)=0:=by first | exact Rat.inv_zero | grind
  rw [e];unfold RB
  refine ⟨?_,?_⟩
  ·rw [show (0:Rat).num.natAbs=0 from rfl,bl_zero];exact Nat.zero_le _
  ·exact Nat.le_trans (bl_length_le (k:=1).2 (by decide)) h1
 ·have hn:p.num ≠ 0:=fun e=>h (Rat.num_eq_zero.1 e)
  conv=>lhs;rw [<- Rat.num_divInt_den p,Rat.inv_divInt]
  exact divInt_RB hn hp.2 hp.1
theorem RB.div {p q:Rat} {i j k:Nat} (hp:RB p i) (hq:RB q j) (h1:1 <= j) (h:i+j <= k):RB (p / q) k:=by
 rw [Rat.div_def];exact hp.mul (hq.inv h1) h
theorem RB.le {p:Rat} {i k:Nat} (hp:RB p i) (h:i <= k):RB p k:=⟨Nat.le_trans hp.1 h,Nat.le_trans hp.2 h⟩
theorem RB.num {p:Rat} {i k:Nat} (hp:RB p i) (h:i <= k):(bl p.num.natAbs).length <= k:=Nat.le_trans hp.1 h
theorem RB.den {p:Rat} {i k:Nat} (hp:RB p i) (h:i <= k):(if p.den=1 then ([]:List UInt8) else bl p.den).length <= k:=by
 split
 ·simp
 ·exact Nat.le_trans hp.2 h
theorem RB.den' {p:Rat} {i k:Nat} (hp:RB p i) (h:i+1 <= k):(if p.den=1 then ([]:List UInt8) else bl p.den).length+1 <= k:=by
 have:=hp.den (k:=i) (Nat.le_refl _);omega
theorem RB.raw {s:Bool} {n d:List UInt8} {k:Nat} (hn:n.length <= k) (hd:d.length <= k):RB (rv s n d) (k+1):=by
 unfold rv
 refine divInt_RB (by have:=dv_pos d;omega) ?_ ?_
 ·rw [sv_natAbs];exact Nat.le_trans (bl_length_nl n) (by omega)
 ·unfold dv;split
  ·exact Nat.le_trans (bl_length_le (k:=1).2 (by decide)) (by omega)
  ·rw [Int.natAbs_natCast];exact Nat.le_trans (bl_length_nl d) (by omega)
theorem RB.int {z:Int} {k:Nat} (h:(bl z.natAbs).length <= k) (h1:1 <= k):RB (z:Rat) k:=by
 unfold RB;rw [Rat.num_intCast,Rat.den_intCast]
 exact ⟨h,Nat.le_trans (bl_length_le (k:=1).2 (by decide)) h1⟩
theorem divInt_one (z:Int):Rat.divInt z 1=(z:Rat):=by
 rw [Rat.divInt_eq_div]
 have:((1:Int):Rat)=1:=rfl
 rw [this,Rat.div_def]
 have e:(1:Rat)⁻¹=1:=by grind
 rw [e,Rat.mul_one]
def dt3 (x1 x2 x3 y1 y2 y3 z1 z2 z3:Int):Int:=x1 * (y2 * z3 - y3 * z2) - x2 * (y1 * z3 - y3 * z1)+x3 * (y1 * z2 - y2 * z1)
def flt (a1 a2 a3 a4 b1 b2 b3 b4 c1 c2 c3 c4:Int):Prop:=
 dt3 a2 a3 a4 b2 b3 b4 c2 c3 c4=0 /\ dt3 a3 a1 a4 b3 b1 b4 c3 c1 c4=0 /\ dt3 a1 a2 a4 b1 b2 b4 c1 c2 c4=0
instance {a1 a2 a3 a4 b1 b2 b3 b4 c1 c2 c3 c4:Int}:Decidable (flt a1 a2 a3 a4 b1 b2 b3 b4 c1 c2 c3 c4):=by unfold flt;infer_instance
end Go.Eng
end
section
namespace Go.Eng
def lex3 (x y z:Int):Int:=if x.sign=0 then (if y.sign=0 then z.sign else y.sign) else x.sign
def cmp4 (a1 a2 a3 a4 b1 b2 b3 b4:Int):Int:=lex3 (a1 * b4 - b1 * a4) (a2 * b4 - b2 * a4) (a3 * b4 - b3 * a4)
section
variable {x b a m n p:Int}
end
def btw (a1 a2 a3 a4 b1 b2 b3 b4 x1 x2 x3 x4:Int):Prop:=
 (¬ cmp4 a1 a2 a3 a4 x1 x2 x3 x4=0) /\ cmp4 a1 a2 a3 a4 x1 x2 x3 x4=cmp4 x1 x2 x3 x4 b1 b2 b3 b4 /\ flt a1 a2 a3 a4 b1 b2 b3 b4 x1 x2 x3 x4
instance {a1 a2 a3 a4 b1 b2 b3 b4 x1 x2 x3 x4:Int}:Decidable (btw a1 a2 a3 a4 b1 b2 b3 b4 x1 x2 x3 x4):=by unfold btw;infer_instance
end Go.Eng
end
section
set_option maxRecDepth 8000
namespace Go.Eng
open Go Go.Proofs Go.IntWalk
theorem sv_zero':sv false (bl 0)=0:=by rw [sv_false,nl_bl];rfl
theorem sv_one':sv false (bl (Int.natAbs 1))=1:=by rw [sv_false,nl_bl];rfl
def spQSign:List Value -> Option Value
 | [.agg ⟨[.bool s,.string ⟨⟨n⟩⟩,.string ⟨⟨d⟩⟩]⟩]=>if n.length <= 17179869184 /\ d.length <= 17179869184 then some (.int .i64 (sv s n).sign) else none
 | _=>none
def c63:ICode:=
 (.seq (.reg [qq 1 (.box 38 3 (.t 0)),qq 2 (.mv (ci 0))]) (.seq (.reg [qq 6 (.load true 3 (.t 1)),qq 7 (.call 84 [(.t 6)]),qq 5 (.mv (.t 7)),qq 8 (.ext (.t 5) 0),qq 9 (.ext (.t 5) 1),qq 3 (.alloc 70 2 [(.bool false),e0]),qq 4 (.alloc 70 2 [(.bool false),e0]),qn (.store 2 (.t 3) (.t 8)),qn (.store 2 (.t 4) (.t 9))]) (.seq (.reg [qq 10 (.load true 2 (.t 3)),qq 11 (.call 90 [(.t 10)]),qq 2 (.mv (.t 11))]) .ret)))
theorem tr63:trFun Tryz.prog 63=some ⟨12,[.t 2],c63⟩:=by kernel_rfl
theorem ok_qSign:SpecOK Tryz.prog 63 (flat spQSign):=by
 refine flat_run (env_cons ok_qParts (env_cons ok_iSign (env_nil _))) mixed tr63 ?_
 intro args v h N hG
 unfold spQSign at hG
 split at hG
 case h_2=>cases hG
 rename_i s n d
 split at hG
 case isFalse=>cases hG
 rename_i hl
 obtain ⟨h1,h2⟩:=hl
 cases hG
 refine ⟨rfl,by simp,?_⟩
 have n2:n.length <= 1099511627776:=by omega
 have d2:d.length <= 1099511627776:=by omega
 have n3:(bl (sv s n).natAbs).length <= 1099511627776:=by rw [sv_natAbs];exact Nat.le_trans (bl_length_nl n) (by omega)
 simp only [c63,G0,Nat.reduceAdd]
 simp only [↓R0,R1,simprocAttr,-Int.reduceAbs,spQParts,spISign,n2,d2,n3,iE,Fin,isEnd,resL,res1,iE,rE]
 exact ⟨_,rfl,rfl,fun k hk=>by simp only [ne_nb hk,if_false]⟩
def spQNeg:List Value -> Option Value
 | [.agg ⟨[.bool s,.string ⟨⟨n⟩⟩,.string ⟨⟨d⟩⟩]⟩]=>if n.length <= 17179869184 /\ d.length <= 17179869184 then some (.agg ⟨rE (- rv s n d)⟩) else none
 | _=>none
def c92:ICode:=
 (.seq (.reg [qq 1 (.box 38 3 (.t 0)),qq 2 (.alloc 38 3 [(.bool false),e0,e0])]) (.seq (.reg [qq 6 (.load true 3 (.t 1)),qq 7 (.call 84 [(.t 6)]),qq 5 (.mv (.t 7)),qq 8 (.ext (.t 5) 0),qq 9 (.ext (.t 5) 1),qq 3 (.alloc 70 2 [(.bool false),e0]),qq 4 (.alloc 70 2 [(.bool false),e0]),qn (.store 2 (.t 3) (.t 8)),qn (.store 2 (.t 4) (.t 9))]) (.seq (.dreg [qu 10 (.load true 2 (.t 3)),qu 11 (.call 116 [(.t 10)]),qv 12 [1] (.load true 2 (.t 4)),qu 13 (.call 85 [(.t 11),(.t 12)]),qm (.store 3 (.t 2) (.t 13))]) .ret)))
theorem tr92:trFun Tryz.prog 92=some ⟨14,[.cell 2 true 3],c92⟩:=by kernel_rfl
theorem ok_qNeg:SpecOK Tryz.prog 92 (flat spQNeg):=by
 refine flat_run (env_cons ok_qParts (env_cons ok_iNeg (env_cons ok_qMade (env_nil _)))) mixed tr92 ?_
 intro args v h N hG
 unfold spQNeg at hG
 split at hG
 case h_2=>cases hG
 rename_i s n d
 split at hG
 case isFalse=>cases hG
 rename_i hl
 obtain ⟨h1,h2⟩:=hl
 cases hG
 refine ⟨rfl,by simp,?_⟩
 have n2:n.length <= 1099511627776:=by omega
 have d2:d.length <= 1099511627776:=by omega
 have n3:(bl (sv s n).natAbs).length <= 1099511627776:=by rw [sv_natAbs];exact Nat.le_trans (bl_length_nl n) (by omega)
 have n4:(bl (-sv s n).natAbs).length <= 34359738368:=by rw [Int.natAbs_neg,sv_natAbs];exact Nat.le_trans (bl_length_nl n) (by omega)
 have d3:(bl (dv d).natAbs).length <= 34359738368:=Nat.le_trans (bl_dv d) (by omega)
 have d4:=dv_nl d
 unfold rv
 rw [Rat.neg_divInt]
 simp only [c92,G0,Nat.reduceAdd]
 simp only [↓R0,R1,simprocAttr,-Int.reduceAbs,spQParts,spINeg,spQMade,n2,d2,n3,n4,d3,d4,iE,nl_bl,Fin,isEnd,resL,res1,iE,rE]
 exact ⟨_,rfl,rfl,fun k hk=>by simp only [ne_nb hk,if_false]⟩
def spQAdd:List Value -> Option Value
 | [.agg ⟨[.bool s,.string ⟨⟨n⟩⟩,.string ⟨⟨d⟩⟩]⟩,.agg ⟨[.bool t,.string ⟨⟨m⟩⟩,.string ⟨⟨e⟩⟩]⟩]=>if n.length <= 8589934592 /\ d.length <= 8589934592 /\ m.length <= 8589934592 /\ e.length <= 8589934592 then some (.agg ⟨rE (rv s n d+rv t m e)⟩) else none
 | _=>none
def c53:ICode:=
 (.seq (.reg [qq 2 (.box 38 3 (.t 0)),qq 3 (.box 38 3 (.t 1)),qq 4 (.alloc 38 3 [(.bool false),e0,e0])]) (.seq (.reg [qq 10 (.load true 3 (.t 2)),qq 11 (.call 84 [(.t 10)]),qq 9 (.mv (.t 11)),qq 12 (.ext (.t 9) 0),qq 13 (.ext (.t 9) 1),qq 5 (.alloc 70 2 [(.bool false),e0]),qq 6 (.alloc 70 2 [(.bool false),e0]),qn (.store 2 (.t 5) (.t 12)),qn (.store 2 (.t 6) (.t 13))]) (.seq (.reg [qq 15 (.load true 3 (.t 3)),qq 16 (.call 84 [(.t 15)]),qq 14 (.mv (.t 16)),qq 17 (.ext (.t 14) 0),qq 18 (.ext (.t 14) 1),qq 7 (.alloc 70 2 [(.bool false),e0]),qq 8 (.alloc 70 2 [(.bool false),e0]),qn (.store 2 (.t 7) (.t 17)),qn (.store 2 (.t 8) (.t 18))]) (.seq (.dreg [qu 19 (.load true 2 (.t 5)),qu 20 (.load true 2 (.t 8)),qu 21 (.call 87 [(.t 19),(.t 20)]),qv 22 [2] (.load true 2 (.t 7)),qv 23 [2] (.load true 2 (.t 6)),qu 24 (.call 87 [(.t 22),(.t 23)]),qu 25 (.call 86 [(.t 21),(.t 24)]),qv 26 [2,5,6] (.load true 2 (.t 6)),qv 27 [2,5,6] (.load true 2 (.t 8)),qu 28 (.call 87 [(.t 26),(.t 27)]),qu 29 (.call 85 [(.t 25),(.t 28)]),qm (.store 3 (.t 4) (.t 29))]) .ret))))
theorem tr53:trFun Tryz.prog 53=some ⟨30,[.cell 4 true 3],c53⟩:=by kernel_rfl
theorem ok_qAdd:SpecOK Tryz.prog 53 (flat spQAdd):=by
 refine flat_run (env_cons ok_qParts (env_cons ok_iMul (env_cons ok_iAdd (env_cons ok_qMade (env_nil _))))) mixed tr53 ?_
 intro args v h N hG
 unfold spQAdd at hG
 split at hG
 case h_2=>cases hG
 rename_i s n d t m e
 split at hG
 case isFalse=>cases hG
 rename_i hl
 obtain ⟨h1,h2,h3,h4⟩:=hl
 have n2:n.length <= 1099511627776:=by omega
 have d2:d.length <= 1099511627776:=by omega
 have m2:m.length <= 1099511627776:=by omega
 have e2:e.length <= 1099511627776:=by omega
 have n3:=len_sv (s:=s) h1
 have m3:=len_sv (s:=t) h3
 have d3:(bl (dv d).natAbs).length <= 8589934593:=len_dv (by omega)
 have e3:(bl (dv e).natAbs).length <= 8589934593:=len_dv (by omega)
 have n4:=Nat.le_trans n3 (by omega:8589934592 <= 34359738368)
 have m4:=Nat.le_trans m3 (by omega:8589934592 <= 34359738368)
 have d4:=Nat.le_trans d3 (by omega:8589934593 <= 34359738368)
 have e4:=Nat.le_trans e3 (by omega:8589934593 <= 34359738368)
 have q1:=len_mul n3 e3
 have q2:=len_mul m3 d3
 have q3:(bl (dv d * dv e).natAbs).length <= 34359738368:=Nat.le_trans (len_mul d3 e3) (by omega)
 have q4:¬ (dv d * dv e).natAbs=0:=by have:=Int.mul_pos (dv_pos d) (dv_pos e);omega
 have q5:(bl (sv s n * dv e+sv t m * dv d).natAbs).length <= 34359738368:=Nat.le_trans (len_add q1 q2) (by omega)
 have q6:(bl (sv s n * dv e).natAbs).length <= 68719476736:=Nat.le_trans q1 (by omega)
 have q7:(bl (sv t m * dv d).natAbs).length <= 68719476736:=Nat.le_trans q2 (by omega)
 unfold rv at hG
 rw [Rat.divInt_add_divInt _ _ (by have:=dv_pos d;omega) (by have:=dv_pos e;omega)] at hG
 cases hG
 refine ⟨rfl,by simp,?_⟩
 simp only [c53,G0,Nat.reduceAdd]
 simp only [↓R0,R1,simprocAttr,-Int.reduceAbs,spQParts,spIMul,spIAdd,spQMade,n2,d2,m2,e2,n4,m4,d4,e4,q3,q4,q5,q6,q7,nl_bl,Fin,isEnd,resL,res1,iE,rE]
 exact ⟨_,rfl,rfl,fun k hk=>by simp only [ne_nb hk,if_false]⟩
def spQMul:List Value -> Option Value
 | [.agg ⟨[.bool s,.string ⟨⟨n⟩⟩,.string ⟨⟨d⟩⟩]⟩,.agg ⟨[.bool t,.string ⟨⟨m⟩⟩,.string ⟨⟨e⟩⟩]⟩]=>if n.length <= 8589934592 /\ d.length <= 8589934592 /\ m.length <= 8589934592 /\ e.length <= 8589934592 then some (.agg ⟨rE (rv s n d * rv t m e)⟩) else none
 | _=>none
def c69:ICode:=
 (.seq (.reg [qq 2 (.box 38 3 (.t 0)),qq 3 (.box 38 3 (.t 1)),qq 4 (.alloc 38 3 [(.bool false),e0,e0])]) (.seq (.reg [qq 10 (.load true 3 (.t 2)),qq 11 (.call 84 [(.t 10)]),qq 9 (.mv (.t 11)),qq 12 (.ext (.t 9) 0),qq 13 (.ext (.t 9) 1),qq 5 (.alloc 70 2 [(.bool false),e0]),qq 6 (.alloc 70 2 [(.bool false),e0]),qn (.store 2 (.t 5) (.t 12)),qn (.store 2 (.t 6) (.t 13))]) (.seq (.reg [qq 15 (.load true 3 (.t 3)),qq 16 (.call 84 [(.t 15)]),qq 14 (.mv (.t 16)),qq 17 (.ext (.t 14) 0),qq 18 (.ext (.t 14) 1),qq 7 (.alloc 70 2 [(.bool false),e0]),qq 8 (.alloc 70 2 [(.bool false),e0]),qn (.store 2 (.t 7) (.t 17)),qn (.store 2 (.t 8) (.t 18))]) (.seq (.dreg [qu 19 (.load true 2 (.t 5)),qu 20 (.load true 2 (.t 7)),qu 21 (.call 87 [(.t 19),(.t 20)]),qv 22 [2] (.load true 2 (.t 6)),qv 23 [2] (.load true 2 (.t 8)),qu 24 (.call 87 [(.t 22),(.t 23)]),qu 25 (.call 85 [(.t 21),(.t 24)]),qm (.store 3 (.t 4) (.t 25))]) .ret))))
theorem tr69:trFun Tryz.prog 69=some ⟨26,[.cell 4 true 3],c69⟩:=by kernel_rfl
theorem ok_qMul:SpecOK Tryz.prog 69 (flat spQMul):=by
 refine flat_run (env_cons ok_qParts (env_cons ok_iMul (env_cons ok_qMade (env_nil _)))) mixed tr69 ?_
 intro args v h N hG
 unfold spQMul at hG
 split at hG
 case h_2=>cases hG
 rename_i s n d t m e
 split at hG
 case isFalse=>cases hG
 rename_i hl
 obtain ⟨h1,h2,h3,h4⟩:=hl
 have n2:n.length <= 1099511627776:=by omega
 have d2:d.length <= 1099511627776:=by omega
 have m2:m.length <= 1099511627776:=by omega
 have e2:e.length <= 1099511627776:=by omega
 have n3:=len_sv (s:=s) h1
 have m3:=len_sv (s:=t) h3
 have d3:(bl (dv d).natAbs).length <= 8589934593:=len_dv (by omega)
 have e3:(bl (dv e).natAbs).length <= 8589934593:=len_dv (by omega)
 have n4:=Nat.le_trans n3 (by omega:8589934592 <= 34359738368)
 have m4:=Nat.le_trans m3 (by omega:8589934592 <= 34359738368)
 have d4:=Nat.le_trans d3 (by omega:8589934593 <= 34359738368)
 have e4:=Nat.le_trans e3 (by omega:8589934593 <= 34359738368)
 have q1:(bl (sv s n * sv t m).natAbs).length <= 34359738368:=Nat.le_trans (len_mul n3 m3) (by omega)
 have q3:(bl (dv d * dv e).natAbs).length <= 34359738368:=Nat.le_trans (len_mul d3 e3) (by omega)
 have q4:¬ (dv d * dv e).natAbs=0:=by have:=Int.mul_pos (dv_pos d) (dv_pos e);omega
 unfold rv at hG
 rw [Rat.divInt_mul_divInt] at hG
 cases hG
 refine ⟨rfl,by simp,?_⟩
 simp only [c69,G0,Nat.reduceAdd]
 simp only [↓R0,R1,simprocAttr,-Int.reduceAbs,spQParts,spIMul,spQMade,n2,d2,m2,e2,n4,m4,d4,e4,q1,q3,q4,nl_bl,Fin,isEnd,resL,res1,iE,rE]
 exact ⟨_,rfl,rfl,fun k hk=>by simp only [ne_nb hk,if_false]⟩
def spQDiv:List Value -> Option Value
 | [.agg ⟨[.bool s,.string ⟨⟨n⟩⟩,.string ⟨⟨d⟩⟩]⟩,.agg ⟨[.bool t,.string ⟨⟨m⟩⟩,.string ⟨⟨e⟩⟩]⟩]=>if n.length <= 8589934592 /\ d.length <= 8589934592 /\ m.length <= 8589934592 /\ e.length <= 8589934592 then
   (if nl m=0 then some (.tuple ⟨[.agg ⟨[.bool false,.string ⟨⟨[]⟩⟩,.string ⟨⟨[]⟩⟩]⟩,.bool false]⟩) else some (.tuple ⟨[.agg ⟨rE (rv s n d / rv t m e)⟩,.bool true]⟩)) else none
 | _=>none
def c66:ICode:=
 (.seq (.reg [qq 2 (.box 38 3 (.t 0)),qq 3 (.box 38 3 (.t 1)),qq 4 (.alloc 38 3 [(.bool false),e0,e0]),qq 5 (.mv (.c (.bool false)))]) (.seq (.reg [qq 11 (.load true 3 (.t 2)),qq 12 (.call 84 [(.t 11)]),qq 10 (.mv (.t 12)),qq 13 (.ext (.t 10) 0),qq 14 (.ext (.t 10) 1),qq 6 (.alloc 70 2 [(.bool false),e0]),qq 7 (.alloc 70 2 [(.bool false),e0]),qn (.store 2 (.t 6) (.t 13)),qn (.store 2 (.t 7) (.t 14))]) (.seq (.reg [qq 16 (.load true 3 (.t 3)),qq 17 (.call 84 [(.t 16)]),qq 15 (.mv (.t 17)),qq 18 (.ext (.t 15) 0),qq 19 (.ext (.t 15) 1),qq 8 (.alloc 70 2 [(.bool false),e0]),qq 9 (.alloc 70 2 [(.bool false),e0]),qn (.store 2 (.t 8) (.t 18)),qn (.store 2 (.t 9) (.t 19))]) (.seq (.dreg [qu 20 (.load true 2 (.t 6)),qu 21 (.load true 2 (.t 9)),qu 22 (.call 87 [(.t 20),(.t 21)]),qv 23 [2] (.load true 2 (.t 7)),qv 24 [2] (.load true 2 (.t 8)),qu 25 (.call 87 [(.t 23),(.t 24)]),qu 26 (.call 91 [(.t 22),(.t 25)]),qu 27 (.ext (.t 26) 0),qu 28 (.ext (.t 26) 1),qm (.store 3 (.t 4) (.t 27)),qu 5 (.mv (.t 28))]) .ret))))
theorem tr66:trFun Tryz.prog 66=some ⟨29,[.cell 4 true 3,.t 5],c66⟩:=by kernel_rfl
theorem ok_qDiv:SpecOK Tryz.prog 66 (flat spQDiv):=by
 refine flat_run (env_cons ok_qParts (env_cons ok_iMul (env_cons ok_qMake (env_nil _)))) mixed tr66 ?_
 intro args v h N hG
 unfold spQDiv at hG
 split at hG
 case h_2=>cases hG
 rename_i s n d t m e
 split at hG
 case isFalse=>cases hG
 rename_i hl
 obtain ⟨h1,h2,h3,h4⟩:=hl
 have n2:n.length <= 1099511627776:=by omega
 have d2:d.length <= 1099511627776:=by omega
 have m2:m.length <= 1099511627776:=by omega
 have e2:e.length <= 1099511627776:=by omega
 have n3:=len_sv (s:=s) h1
 have m3:=len_sv (s:=t) h3
 have d3:(bl (dv d).natAbs).length <= 8589934593:=len_dv (by omega)
 have e3:(bl (dv e).natAbs).length <= 8589934593:=len_dv (by omega)
 have n4:=Nat.le_trans n3 (by omega:8589934592 <= 34359738368)
 have m4:=Nat.le_trans m3 (by omega:8589934592 <= 34359738368)
 have d4:=Nat.le_trans d3 (by omega:8589934593 <= 34359738368)
 have e4:=Nat.le_trans e3 (by omega:8589934593 <= 34359738368)
 have q1:(bl (sv s n * dv e).natAbs).length <= 34359738368:=Nat.le_trans (len_mul n3 e3) (by omega)
 have q3:(bl (dv d * sv t m).natAbs).length <= 34359738368:=Nat.le_trans (len_mul d3 m3) (by omega)
 split at hG
 ·rename_i h0
  have z0:sv t m=0:=(sv_eq_zero t m).2 h0
  have q4:(Int.natAbs 0)=0:=rfl
  have z1:(bl 0).length <= 34359738368:=by rw [bl_zero];exact Nat.zero_le _
  rw [z0] at q3 m4
  simp only [Int.mul_zero] at q3
  cases hG
  refine ⟨rfl,by simp,?_⟩
  simp only [c66,G0,Nat.reduceAdd]
  simp only [↓R0,R1,simprocAttr,-Int.reduceAbs,spQParts,spIMul,spQMake,n2,d2,m2,e2,n4,m4,d4,e4,z0,z1,sv_zero',Int.mul_zero,q1,q3,q4,nl_bl,Fin,isEnd,resL,res1,iE,rE]
  exact ⟨_,rfl,rfl,fun k hk=>by simp only [ne_nb hk,if_false]⟩
 rename_i h0
 have z0:sv t m ≠ 0:=fun e=>h0 ((sv_eq_zero t m).1 e)
 have q4:((dv d * sv t m).natAbs=0)=False:=eq_false (by have:=Int.mul_ne_zero (by have:=dv_pos d;omega:dv d ≠ 0) z0;omega)
 rw [Rat.div_def] at hG
 unfold rv at hG
 rw [Rat.inv_divInt,Rat.divInt_mul_divInt] at hG
 cases hG
 refine ⟨rfl,by simp,?_⟩
 simp only [c66,G0,Nat.reduceAdd]
 simp only [↓R0,R1,simprocAttr,-Int.reduceAbs,spQParts,spIMul,spQMake,n2,d2,m2,e2,n4,m4,d4,e4,q1,q3,q4,nl_bl,Fin,isEnd,resL,res1,iE,rE]
 exact ⟨_,rfl,rfl,fun k hk=>by simp only [ne_nb hk,if_false]⟩
def spQSub:List Value -> Option Value
 | [.agg ⟨[.bool s,.string ⟨⟨n⟩⟩,.string ⟨⟨d⟩⟩]⟩,.agg ⟨[.bool t,.string ⟨⟨m⟩⟩,.string ⟨⟨e⟩⟩]⟩]=>if n.length <= 8589934592 /\ d.length <= 8589934592 /\ m.length <= 8589934592 /\ e.length+1 <= 8589934592 then some (.agg ⟨rE (rv s n d - rv t m e)⟩) else none
 | _=>none
def c68:ICode:=
 (.seq (.reg [qq 2 (.box 38 3 (.t 0)),qq 3 (.box 38 3 (.t 1)),qq 4 (.alloc 38 3 [(.bool false),e0,e0])]) (.seq (.dreg [qu 5 (.load true 3 (.t 2)),qu 6 (.load true 3 (.t 3)),qu 7 (.call 92 [(.t 6)]),qu 8 (.call 53 [(.t 5),(.t 7)]),qm (.store 3 (.t 4) (.t 8))]) .ret))
theorem tr68:trFun Tryz.prog 68=some ⟨9,[.cell 4 true 3],c68⟩:=by kernel_rfl
theorem ok_qSub:SpecOK Tryz.prog 68 (flat spQSub):=by
 refine flat_run (env_cons ok_qNeg (env_cons ok_qAdd (env_nil _))) mixed tr68 ?_
 intro args v h N hG
 unfold spQSub at hG
 split at hG
 case h_2=>cases hG
 rename_i s n d t m e
 split at hG
 case isFalse=>cases hG
 rename_i hl
 obtain ⟨h1,h2,h3,h4⟩:=hl
 cases hG
 refine ⟨rfl,by simp,?_⟩
 have m2:m.length <= 17179869184:=by omega
 have e2:e.length <= 17179869184:=by omega
 obtain ⟨g1,g2⟩:=divInt_le (N:=sv t m) (dv_pos e)
 have m3:(bl (-rv t m e).num.natAbs).length <= 8589934592:=by
  rw [(len_rneg _).1];exact Nat.le_trans (bl_length_mono g1) (len_sv h3)
 have e3:(if (-rv t m e).den=1 then ([]:List UInt8) else bl (-rv t m e).den).length <= 8589934592:=by
  refine len_den _ ?_
  rw [(len_rneg _).2];exact Nat.le_trans (bl_length_mono g2) (Nat.le_trans (bl_dv e) h4)
 rw [Rat.sub_eq_add_neg]
 simp only [c68,G0,Nat.reduceAdd]
 simp only [↓R0,R1,simprocAttr,-Int.reduceAbs,spQNeg,spQAdd,h1,h2,m2,e2,m3,e3,rE,rv_can,Fin,isEnd,resL,res1,iE,rE]
 exact ⟨_,rfl,rfl,fun k hk=>by simp only [ne_nb hk,if_false]⟩
def spQFrom:List Value -> Option Value
 | [.int .i64 n]=>if -9223372036854775808 <= n /\ n <= 9223372036854775807 then some (.agg ⟨rE (n:Rat)⟩) else none
 | _=>none
def c54:ICode:=
 (.seq (.reg [qq 2 (.alloc 38 3 [(.bool false),e0,e0])]) (.seq (.reg [qq 3 (.mv (.t 0)),qq 4 (.call 88 [(.t 3)]),qq 5 (.call 88 [(ci 1)]),qq 6 (.call 85 [(.t 4),(.t 5)]),qn (.store 3 (.t 2) (.t 6))]) .ret))
theorem tr54:trFun Tryz.prog 54=some ⟨7,[.cell 2 true 3],c54⟩:=by kernel_rfl
theorem len8 {n:Int} (h1:-9223372036854775808 <= n) (h2:n <= 9223372036854775807):(bl n.natAbs).length <= 8:=
 bl_length_le.2 (Nat.lt_of_le_of_lt (by omega:n.natAbs <= 9223372036854775808) (by decide))
theorem ok_qFrom:SpecOK Tryz.prog 54 (flat spQFrom):=by
 refine flat_run (env_cons ok_iFrom (env_cons ok_qMade (env_nil _))) mixed tr54 ?_
 intro args v h N hG
 unfold spQFrom at hG
 split at hG
 case h_2=>cases hG
 rename_i n
 split at hG
 case isFalse=>cases hG
 rename_i hl
 obtain ⟨h1,h2⟩:=hl
 have n1:=Nat.le_trans (len8 h1 h2) (by omega:8 <= 34359738368)
 have o1:(bl (Int.natAbs 1)).length <= 34359738368:=Nat.le_trans (bl_length_le (k:=1).2 (by decide)) (by omega)
 have o2:(Int.natAbs 1=0)=False:=eq_false (by decide)
 rw [<- divInt_one] at hG
 cases hG
 refine ⟨rfl,by simp,?_⟩
 simp only [c54,G0,Nat.reduceAdd]
 simp only [↓R0,R1,simprocAttr,-Int.reduceAbs,spIFrom,h1,h2,spQMade,n1,o1,o2,sv_one',nl_bl,Fin,isEnd,resL,res1,iE,rE]
 exact ⟨_,rfl,rfl,fun k hk=>by simp only [ne_nb hk,if_false]⟩
end Go.Eng
end
section
namespace Go.Eng
structure RQ where
 (s:Bool) (n d:List UInt8)
namespace RQ
def cells (q:RQ):List Value:=[.bool q.s,.string ⟨⟨q.n⟩⟩,.string ⟨⟨q.d⟩⟩]
def v (q:RQ):Rat:=rv q.s q.n q.d
def ok (k:Nat) (q:RQ):Prop:=q.n.length <= k /\ q.d.length <= k
instance {k:Nat} {q:RQ}:Decidable (q.ok k):=by unfold ok;infer_instance
def of (x:Rat):RQ:=⟨decide (x.num < 0),bl x.num.natAbs,if x.den=1 then [] else bl x.den⟩
theorem of_v (x:Rat):(of x).v=x:=rv_can x
theorem of_ok {x:Rat} {k:Nat} (h:RB x k):(of x).ok k:=⟨h.num (Nat.le_refl _),h.den (Nat.le_refl _)⟩
theorem ok.rb {q:RQ} {k:Nat} (h:q.ok k):RB q.v (k+1):=RB.raw h.1 h.2
theorem ok.le {q:RQ} {i k:Nat} (h:q.ok i) (hk:i <= k):q.ok k:=⟨Nat.le_trans h.1 hk,Nat.le_trans h.2 hk⟩
end RQ
def rqs (l:List RQ):List Value:=l.flatMap RQ.cells
def dec1:List Value -> Option RQ
 | [.bool s,.string ⟨⟨n⟩⟩,.string ⟨⟨d⟩⟩]=>some ⟨s,n,d⟩
 | _=>none
theorem dec1_eq {cs:List Value} {q:RQ} (e:dec1 cs=some q):cs=[.bool q.s,.string ⟨⟨q.n⟩⟩,.string ⟨⟨q.d⟩⟩]:=by
 unfold dec1 at e
 split at e
 ·cases e;rfl
 ·cases e
end Go.Eng
end
section
namespace Go.Eng
def RQ.zero:RQ:=⟨false,[],[]⟩
theorem RB.zero:RB 0 1:=by
 refine ⟨?_,bl_length_le.2 (by decide)⟩
 rw [show (0:Rat).num.natAbs=0 from rfl,bl_zero];exact Nat.zero_le _
theorem rqs_at:∀ (l:List RQ) (i:Nat) (q:RQ),l[i]?=some q -> ((rqs l).drop (i * 3)).take 3=q.cells
 | [],i,q,h=>by simp at h
 | x :: l,0,q,h=>by
  simp at h;subst h
  simp [rqs,RQ.cells]
 | x :: l,i+1,q,h=>by
  have:=rqs_at l i q (by simpa using h)
  rw [Nat.succ_mul,Nat.add_comm (i * 3) 3,<- List.drop_drop]
  have e:(rqs (x :: l)).drop 3=rqs l:=by simp [rqs,RQ.cells]
  rw [e];exact this
theorem RB.one:RB 1 1:=⟨bl_length_le.2 (by decide),bl_length_le.2 (by decide)⟩
def sm:Nat -> (Nat -> Rat) -> Rat
 | 0,_=>0
 | k+1,f=>sm k f+f k
theorem sm_congr {f g:Nat -> Rat}:∀ {k},(∀ j,j < k -> f j=g j) -> sm k f=sm k g
 | 0,_=>rfl
 | k+1,h=>by rw [sm,sm,sm_congr (k:=k) fun j hj=>h j (by omega),h k (by omega)]
theorem sm_add (f g:Nat -> Rat):∀ k,sm k (fun j=>f j+g j)=sm k f+sm k g
 | 0=>by rw [sm,sm,sm,Rat.add_zero]
 | k+1=>by rw [sm,sm,sm,sm_add f g k];grind
theorem sm_mul (c:Rat) (f:Nat -> Rat):∀ k,sm k (fun j=>c * f j)=c * sm k f
 | 0=>by rw [sm,sm,Rat.mul_zero]
 | k+1=>by rw [sm,sm,sm_mul c f k];grind
theorem sm_zero {f:Nat -> Rat} {k:Nat} (h:∀ j,j < k -> f j=0):sm k f=0:=by
 induction k with
 | zero=>rfl
 | succ k ih=>rw [sm,ih fun j hj=>h j (by omega),h k (by omega),Rat.add_zero]
theorem sm_one {f:Nat -> Rat} {p:Nat} (h:∀ j,j ≠ p -> f j=0):∀ {k},p < k -> sm k f=f p
 | 0,hk=>by omega
 | k+1,hk=>by
  by_cases e:p=k
  ·subst e
   rw [sm,sm_zero fun j hj=>h j (by omega),Rat.zero_add]
  ·rw [sm,sm_one h (k:=k) (by omega),h k (fun x=>e x.symm),Rat.add_zero]
def lin (N:Nat) (r x:Nat -> Rat):Rat:=sm N fun j=>r j * x j
theorem lin_sub (N:Nat) (r h x:Nat -> Rat) (b:Rat):lin N (fun j=>r j - b * h j) x=lin N r x - b * lin N h x:=by
 unfold lin
 have e:(fun j=>(r j - b * h j) * x j)=fun j=>r j * x j+(-b) * (h j * x j):=by funext j;grind
 rw [e,sm_add,sm_mul];grind
theorem lin_div (N:Nat) (r x:Nat -> Rat) (c:Rat):lin N (fun j=>r j / c) x=lin N r x / c:=by
 unfold lin
 have e:(fun j=>r j / c * x j)=fun j=>c⁻¹ * (r j * x j):=by funext j;rw [Rat.div_def];grind
 rw [e,sm_mul,Rat.div_def,Rat.mul_comm]
theorem lin_mul (N:Nat) (r x:Nat -> Rat) (c:Rat):lin N (fun j=>r j * c) x=lin N r x * c:=by
 unfold lin
 have e:(fun j=>r j * c * x j)=fun j=>c * (r j * x j):=by funext j;grind
 rw [e,sm_mul,Rat.mul_comm]
theorem lin_addv (N:Nat) (r x y:Nat -> Rat) (c:Rat):lin N r (fun j=>x j+c * y j)=lin N r x+c * lin N r y:=by
 unfold lin
 rw [<- sm_mul,<- sm_add]
 exact sm_congr fun j _=>by grind
theorem lin_congr {N:Nat} {r r' x x':Nat -> Rat} (h:∀ j,j < N -> r j=r' j) (h':∀ j,j < N -> x j=x' j):lin N r x=lin N r' x':=sm_congr fun j hj=>by rw [h j hj,h' j hj]
abbrev Mat:=Nat -> Nat -> Rat
def findR (M:Mat) (k:Nat):Nat -> Nat -> Option Nat
 | 0,_=>none
 | d+1,top=>if M top k ≠ 0 then some top else findR M k d (top+1)
theorem findR_some {M:Mat} {k:Nat}:∀ {d top i},findR M k d top=some i -> top <= i /\ i < top+d /\ M i k ≠ 0
 | 0,_,_,h=>by cases h
 | d+1,top,i,h=>by
  unfold findR at h
  split at h
  ·cases h;exact ⟨by omega,by omega,by assumption⟩
  ·obtain ⟨a,b,c⟩:=findR_some h
   exact ⟨by omega,by omega,c⟩
theorem findR_none {M:Mat} {k:Nat}:∀ {d top},findR M k d top=none -> ∀ i,top <= i -> i < top+d -> M i k=0
 | 0,_,_,_,_,_=>by omega
 | d+1,top,h,i,h1,h2=>by
  unfold findR at h
  split at h
  ·cases h
  ·rename_i c
   by_cases e:i=top
   ·subst e;exact Classical.byContradiction c
   ·exact findR_none h i (by omega) (by omega)
def swapR (M:Mat) (a b:Nat):Mat:=fun i=>if i=a then M b else if i=b then M a else M i
def pivR (M:Mat) (top k:Nat):Mat:=fun i j=>if i=top then M top j / M top k else M i j - M i k * (M top j / M top k)
structure LS where
 M:Mat
 hs:List Nat
def stepK (m k:Nat) (s:LS):LS:=match findR s.M k (m - s.hs.length) s.hs.length with
 | none=>s
 | some i=>⟨pivR (swapR s.M s.hs.length i) s.hs.length k,s.hs ++ [k]⟩
def redK (m:Nat) (M:Mat):Nat -> LS
 | 0=>⟨M,[]⟩
 | k+1=>stepK m k (redK m M k)
def hd (hs:List Nat) (p:Nat):Nat:=(hs[p]?).getD 0
theorem hd_app_lt {hs:List Nat} {p k:Nat} (h:p < hs.length):hd (hs ++ [k]) p=hd hs p:=by unfold hd;rw [List.getElem?_append_left h]
theorem hd_app_eq {hs:List Nat} {k:Nat}:hd (hs ++ [k]) hs.length=k:=by unfold hd;rw [List.getElem?_append_right (Nat.le_refl _),Nat.sub_self];rfl
structure RInv (m k:Nat) (s:LS):Prop where
 r:s.hs.length <= m
 lt:∀ p,p < s.hs.length -> hd s.hs p < k
 inc:∀ p q,p < q -> q < s.hs.length -> hd s.hs p < hd s.hs q
 one:∀ p,p < s.hs.length -> s.M p (hd s.hs p)=1
 col:∀ p,p < s.hs.length -> ∀ i,i < m -> i ≠ p -> s.M i (hd s.hs p)=0
 lead:∀ p,p < s.hs.length -> ∀ j,j < hd s.hs p -> s.M p j=0
 low:∀ i,s.hs.length <= i -> i < m -> ∀ j,j < k -> s.M i j=0
def nullM (N m:Nat) (M:Mat) (x:Nat -> Rat):Prop:=∀ i,i < m -> lin N (M i) x=0
theorem swap_null {N m a b:Nat} {M:Mat} {x:Nat -> Rat} (ha:a < m) (hb:b < m):nullM N m (swapR M a b) x ↔ nullM N m M x:=by
 constructor
 ·intro h i hi
  by_cases e1:i=a
  ·subst e1
   have:=h b hb
   unfold swapR at this
   by_cases e:b=i
   ·rw [if_pos e] at this;rw [<- e];exact this
   ·rw [if_neg e,if_pos rfl] at this;exact this
  ·by_cases e2:i=b
   ·subst e2
    have:=h a ha
    unfold swapR at this
    rw [if_pos rfl] at this;exact this
   ·have:=h i hi
    unfold swapR at this
    rw [if_neg e1,if_neg e2] at this;exact this
 ·intro h i hi
  unfold swapR
  split
  ·exact h b hb
  ·split
   ·exact h a ha
   ·exact h i hi
theorem div_eq_zero {a c:Rat} (hc:c ≠ 0) (h:a / c=0):a=0:=by
 grind
theorem zero_div' (c:Rat):(0:Rat) / c=0:=by rw [Rat.div_def,Rat.zero_mul]
theorem div_self' {c:Rat} (h:c ≠ 0):c / c=1:=by rw [Rat.div_def];exact Rat.mul_inv_cancel _ h
theorem piv_null {N m top k:Nat} {M:Mat} {x:Nat -> Rat} (ht:top < m) (hk:M top k ≠ 0):nullM N m (pivR M top k) x ↔ nullM N m M x:=by
 have et:pivR M top k top=fun j=>M top j / M top k:=by funext j;unfold pivR;rw [if_pos rfl]
 have eo:∀ i,i ≠ top -> pivR M top k i=fun j=>M i j - M i k * (M top j / M top k):=fun i hi=>by funext j;unfold pivR;rw [if_neg hi]
 constructor
 ·intro h
  have h0:lin N (M top) x=0:=by
   have:=h top ht
   rw [et,lin_div] at this
   exact div_eq_zero hk this
  intro i hi
  by_cases e:i=top
  ·rw [e];exact h0
  ·have:=h i hi
   rw [eo i e,lin_sub N (M i) (fun j=>M top j / M top k),lin_div,h0,zero_div',Rat.mul_zero] at this
   grind
 ·intro h i hi
  by_cases e:i=top
  ·rw [e,et,lin_div,h top ht,zero_div']
  ·rw [eo i e,lin_sub N (M i) (fun j=>M top j / M top k),lin_div,h top ht,h i hi,zero_div',Rat.mul_zero];grind
theorem step_null {N m k:Nat} {s:LS} {x:Nat -> Rat} (hr:s.hs.length <= m):nullM N m (stepK m k s).M x ↔ nullM N m s.M x:=by
 unfold stepK
 split
 ·exact Iff.rfl
 ·rename_i i hi
  obtain ⟨h1,h2,h3⟩:=findR_some hi
  have ht:s.hs.length < m:=by omega
  refine (piv_null ht ?_).trans (swap_null ht (by omega))
  unfold swapR
  rw [if_pos rfl];exact h3
theorem step_inv {m k:Nat} {s:LS} (h:RInv m k s):RInv m (k+1) (stepK m k s):=by
 unfold stepK
 split
 ·rename_i hn
  have hz:=findR_none hn
  refine ⟨h.r,fun p hp=>by have:=h.lt p hp;omega,h.inc,h.one,h.col,h.lead,fun i h1 h2 j hj=>?_⟩
  by_cases e:j=k
  ·subst e;exact hz i h1 (by omega)
  ·exact h.low i h1 h2 j (by omega)
 ·rename_i i hi
  obtain ⟨h1,h2,h3⟩:=findR_some hi
  have ht:s.hs.length < m:=by omega
  obtain ⟨top,et⟩:∃ t,s.hs.length=t:=⟨_,rfl⟩
  have hl:∀ p,p < s.hs.length -> ∀ q,s.hs.length <= q -> q < m -> swapR s.M s.hs.length i q (hd s.hs p)=0:=by
   intro p hp q hq hqm
   unfold swapR
   split
   ·exact h.col p hp i (by omega) (by omega)
   ·split
    ·exact h.col p hp _ ht (by omega)
    ·exact h.col p hp q hqm (by omega)
  have hlow:∀ q,s.hs.length <= q -> q < m -> ∀ j,j < k -> swapR s.M s.hs.length i q j=0:=by
   intro q hq hqm j hj
   unfold swapR
   split
   ·exact h.low i h1 (by omega) j hj
   ·split
    ·exact h.low _ (Nat.le_refl _) ht j hj
    ·exact h.low q hq hqm j hj
  have hup:∀ p,p < s.hs.length -> swapR s.M s.hs.length i p=s.M p:=by
   intro p hp
   unfold swapR
   rw [if_neg (by omega),if_neg (by omega)]
  have htk:swapR s.M s.hs.length i s.hs.length k ≠ 0:=by
   unfold swapR;rw [if_pos rfl];exact h3
  generalize swapR s.M s.hs.length i=B at *
  have pt:∀ j,pivR B s.hs.length k s.hs.length j=B s.hs.length j / B s.hs.length k:=fun j=>by unfold pivR;rw [if_pos rfl]
  have po:∀ q,q ≠ s.hs.length -> ∀ j,pivR B s.hs.length k q j=B q j - B q k * (B s.hs.length j / B s.hs.length k):=fun q hq j=>by unfold pivR;rw [if_neg hq]
  have ln:(s.hs ++ [k]).length=s.hs.length+1:=by simp
  have hd1:∀ p,p < s.hs.length -> hd (s.hs ++ [k]) p=hd s.hs p:=fun p hp=>hd_app_lt hp
  have hd2:hd (s.hs ++ [k]) s.hs.length=k:=hd_app_eq
  constructor
  ·show (s.hs ++ [k]).length <= m
   omega
  ·intro p hp
   show hd (s.hs ++ [k]) p < k+1
   change p < (s.hs ++ [k]).length at hp
   by_cases e:p=s.hs.length
   ·rw [e,hd2];omega
   ·rw [hd1 p (by omega)];have:=h.lt p (by omega);omega
  ·intro p q hpq hq
   show hd (s.hs ++ [k]) p < hd (s.hs ++ [k]) q
   change q < (s.hs ++ [k]).length at hq
   rw [hd1 p (by omega)]
   by_cases e:q=s.hs.length
   ·rw [e,hd2];exact h.lt p (by omega)
   ·rw [hd1 q (by omega)];exact h.inc p q hpq (by omega)
  ·intro p hp
   show pivR B s.hs.length k p (hd (s.hs ++ [k]) p)=1
   change p < (s.hs ++ [k]).length at hp
   by_cases e:p=s.hs.length
   ·rw [e,hd2,pt];exact div_self' htk
   ·rw [hd1 p (by omega),po p e,hl p (by omega) _ (Nat.le_refl _) ht,zero_div',Rat.mul_zero,hup p (by omega),h.one p (by omega)];grind
  ·intro p hp q hq hqp
   show pivR B s.hs.length k q (hd (s.hs ++ [k]) p)=0
   change p < (s.hs ++ [k]).length at hp
   by_cases e:p=s.hs.length
   ·rw [e,hd2,po q (by omega),div_self' htk];grind
   ·rw [hd1 p (by omega)]
    by_cases eq:q=s.hs.length
    ·rw [eq,pt,hl p (by omega) _ (Nat.le_refl _) ht,zero_div']
    ·rw [po q eq,hl p (by omega) _ (Nat.le_refl _) ht,zero_div',Rat.mul_zero]
     by_cases c:q < s.hs.length
     ·rw [hup q c,h.col p (by omega) q hq hqp];grind
     ·rw [hl p (by omega) q (by omega) hq];grind
  ·intro p hp j hj
   show pivR B s.hs.length k p j=0
   change p < (s.hs ++ [k]).length at hp
   change j < hd (s.hs ++ [k]) p at hj
   by_cases e:p=s.hs.length
   ·rw [e,hd2] at hj
    rw [e,pt,hlow _ (Nat.le_refl _) ht j hj,zero_div']
   ·rw [hd1 p (by omega)] at hj
    have:=h.lt p (by omega)
    rw [po p e,hlow _ (Nat.le_refl _) ht j (by omega),zero_div',Rat.mul_zero,hup p (by omega),h.lead p (by omega) j hj];grind
  ·intro q hq hqm j hj
   show pivR B s.hs.length k q j=0
   change (s.hs ++ [k]).length <= q at hq
   rw [po q (by omega)]
   by_cases e:j=k
   ·rw [e,div_self' htk];grind
   ·rw [hlow _ (Nat.le_refl _) ht j (by omega),hlow q (by omega) hqm j (by omega),zero_div'];grind
theorem red_inv (m:Nat) (M:Mat):∀ k,RInv m k (redK m M k)
 | 0=>⟨Nat.zero_le _,fun p hp=>absurd hp (Nat.not_lt_zero p),fun p q _ hq=>absurd hq (Nat.not_lt_zero q),fun p hp=>absurd hp (Nat.not_lt_zero p),fun p hp=>absurd hp (Nat.not_lt_zero p),fun p hp=>absurd hp (Nat.not_lt_zero p),fun i _ _ j hj=>absurd hj (Nat.not_lt_zero j)⟩
 | k+1=>step_inv (red_inv m M k)
theorem red_null (N m:Nat) (M:Mat) (x:Nat -> Rat):∀ k,nullM N m (redK m M k).M x ↔ nullM N m M x
 | 0=>Iff.rfl
 | k+1=>(step_null (red_inv m M k).r).trans (red_null N m M x k)
end Go.Eng
end
section
namespace Go.Eng
def hIdx (h:Nat -> Nat):Nat -> Nat -> Option Nat
 | 0,_=>none
 | r+1,j=>if h r=j then some r else hIdx h r j
theorem hIdx_some {h:Nat -> Nat} {j q:Nat}:∀ {r},hIdx h r j=some q -> q < r /\ h q=j
 | 0,e=>by cases e
 | r+1,e=>by
  unfold hIdx at e
  split at e
  ·cases e;exact ⟨by omega,by assumption⟩
  ·obtain ⟨a,b⟩:=hIdx_some e;exact ⟨by omega,b⟩
theorem hIdx_none {h:Nat -> Nat} {j:Nat}:∀ {r},hIdx h r j=none -> ∀ q,q < r -> h q ≠ j
 | 0,_,q,hq=>by omega
 | r+1,e,q,hq=>by
  unfold hIdx at e
  split at e
  ·cases e
  ·rename_i c
   by_cases x:q=r
   ·rw [x];exact c
   ·exact hIdx_none e q (by omega)
theorem inj_le:∀ (r r':Nat) (g:Nat -> Nat),(∀ p,p < r -> g p < r') -> (∀ p q,p < r -> q < r -> g p=g q -> p=q) -> r <= r'
 | 0,_,_,_,_=>Nat.zero_le _
 | r+1,0,g,h,_=>absurd (h 0 (by omega)) (Nat.not_lt_zero _)
 | r+1,r'+1,g,h,hi=>by
  let g':Nat -> Nat:=fun p=>if g p=r' then g r else g p
  have:=inj_le r r' g' (fun p hp=>by
   show (if g p=r' then g r else g p) < r'
   split
   ·rename_i e
    have a:=h r (by omega)
    have b:g r ≠ r':=fun x=>by have:=hi p r (by omega) (by omega) (by rw [e,x]);omega
    omega
   ·have:=h p (by omega);omega) (fun p q hp hq e=>by
   change (if g p=r' then g r else g p)=(if g q=r' then g r else g q) at e
   split at e <;> split at e
   ·rename_i a b;exact hi p q (by omega) (by omega) (by rw [a,b])
   ·have:=hi r q (by omega) (by omega) e;omega
   ·have:=hi p r (by omega) (by omega) e;omega
   ·exact hi p q (by omega) (by omega) e)
  omega
structure SysS (n:Nat) (Z:(Nat -> Rat) -> Prop) (r:Nat) (R:Mat) (h:Nat -> Nat) (cl:Prop):Prop where
 lt:∀ p,p < r -> h p < n
 inj:∀ p q,p < r -> q < r -> h p=h q -> p=q
 one:∀ p,p < r -> R p (h p)=1
 col:∀ p q,p < r -> q < r -> q ≠ p -> R q (h p)=0
 lead:∀ p,p < r -> ∀ j,j < h p -> R p j=0
 z:∀ X,Z X ↔ (∀ p,p < r -> lin (n+1) (R p) X=0) /\ (cl -> X n=0)
def fillX (n r:Nat) (R:Mat) (h:Nat -> Nat) (f:Nat -> Rat):Nat -> Rat:=fun j=>match hIdx h r j with
 | some q=>- sm (n+1) (fun i=>if (hIdx h r i).isSome then 0 else R q i * f i)
 | none=>f j
def HeadP (n:Nat) (Z:(Nat -> Rat) -> Prop) (k:Nat):Prop:=∀ X,Z X -> X n=0 -> (∀ j,k < j -> j < n -> X j=0) -> X k=0
def DetP (n:Nat) (Z:(Nat -> Rat) -> Prop) (k:Nat):Prop:=∀ X,Z X -> X n=0 -> X k=0
def ConP (n:Nat) (Z:(Nat -> Rat) -> Prop):Prop:=∃ X,Z X /\ X n=-1
section
variable {n r:Nat} {Z:(Nat -> Rat) -> Prop} {R:Mat} {h:Nat -> Nat} {cl:Prop}
theorem SysS.idx (S:SysS n Z r R h cl) {p:Nat} (hp:p < r):hIdx h r (h p)=some p:=by
 cases e:hIdx h r (h p) with
 | none=>exact absurd rfl (hIdx_none e p hp)
 | some q=>
  obtain ⟨a,b⟩:=hIdx_some e
  rw [S.inj q p a hp b]
theorem SysS.idx_n (S:SysS n Z r R h cl):hIdx h r n=none:=by
 cases e:hIdx h r n with
 | none=>rfl
 | some q=>
  obtain ⟨a,b⟩:=hIdx_some e
  have:=S.lt q a;omega
theorem SysS.fill (S:SysS n Z r R h cl) (f:Nat -> Rat) {p:Nat} (hp:p < r):lin (n+1) (R p) (fillX n r R h f)=0:=by
 have e0:fillX n r R h f (h p)=- sm (n+1) (fun i=>if (hIdx h r i).isSome then 0 else R p i * f i):=by unfold fillX;rw [S.idx hp]
 have e1:lin (n+1) (R p) (fillX n r R h f)=sm (n+1) (fun j=>(if j=h p then fillX n r R h f (h p) else 0)+(if (hIdx h r j).isSome then 0 else R p j * f j)):=by
  unfold lin
  refine sm_congr fun j _=>?_
  by_cases c:j=h p
  ·rw [if_pos c,c,S.idx hp,S.one p hp]
   show 1 * _=_+0
   rw [Rat.one_mul,Rat.add_zero]
  ·rw [if_neg c]
   cases e:hIdx h r j with
   | none=>
    have:fillX n r R h f j=f j:=by unfold fillX;rw [e]
    rw [this,if_neg (by simp),Rat.zero_add]
   | some q=>
    obtain ⟨a,b⟩:=hIdx_some e
    have:R p j=0:=by rw [<- b];exact S.col q p a hp (fun x=>c (by rw [<- b,x]))
    rw [this]
    show 0 * _=0+0
    rw [Rat.zero_mul,Rat.add_zero]
 rw [e1,sm_add,sm_one (p:=h p) (fun j hj=>by rw [if_neg hj]) (by have:=S.lt p hp;omega),if_pos rfl,e0]
 grind
theorem SysS.con (S:SysS n Z r R h cl):ConP n Z ↔ ¬ cl:=by
 constructor
 ·rintro ⟨X,h1,h2⟩ c
  have:=((S.z X).1 h1).2 c
  rw [this] at h2
  exact absurd h2 (by decide)
 ·intro c
  refine ⟨fillX n r R h (fun j=>if j=n then -1 else 0),(S.z _).2 ⟨fun p hp=>S.fill _ hp,fun x=>absurd x c⟩,?_⟩
  unfold fillX
  rw [S.idx_n]
  exact if_pos rfl
theorem SysS.delta (S:SysS n Z r R h cl) {k:Nat} (hk:k < n) (hn:hIdx h r k=none):∃ X,Z X /\ X n=0 /\ X k=1 /\ (∀ j,hIdx h r j=none -> j ≠ k -> X j=0) /\ (∀ q,q < r -> X (h q)=- R q k):=by
 refine ⟨fillX n r R h (fun j=>if j=k then 1 else 0),(S.z _).2 ⟨fun p hp=>S.fill _ hp,fun _=>?_⟩,?_,?_,?_,?_⟩
 ·unfold fillX;rw [S.idx_n];exact if_neg (by omega)
 ·unfold fillX;rw [S.idx_n];exact if_neg (by omega)
 ·unfold fillX;rw [hn];exact if_pos rfl
 ·intro j hj hjk;unfold fillX;rw [hj];exact if_neg hjk
 ·intro q hq
  unfold fillX
  rw [S.idx hq]
  show - sm (n+1) _=_
  rw [sm_one (p:=k) (fun j hj=>by
   split
   ·rfl
   ·show R q j * (if j=k then 1 else 0)=0
    rw [if_neg hj,Rat.mul_zero]) (by omega),hn,if_neg (by simp)]
  show -(R q k * (if k=k then 1 else 0))=_
  rw [if_pos rfl,Rat.mul_one]
theorem lin_lead {N:Nat} {a x:Nat -> Rat} {k:Nat} (hk:k < N) (h1:∀ j,j < k -> a j=0) (h2:∀ j,k < j -> j < N -> x j=0):lin N a x=a k * x k:=by
 unfold lin
 have e:sm N (fun j=>a j * x j)=sm N (fun j=>if j=k then a k * x k else 0):=sm_congr fun j hj=>by
  by_cases c:j=k
  ·rw [if_pos c,c]
  ·rw [if_neg c]
   by_cases c2:j < k
   ·rw [h1 j c2,Rat.zero_mul]
   ·rw [h2 j (by omega) hj,Rat.mul_zero]
 rw [e,sm_one (p:=k) (fun j hj=>if_neg hj) hk,if_pos rfl]
theorem SysS.head (S:SysS n Z r R h cl) {k:Nat} (hk:k < n):(∃ p,p < r /\ h p=k) ↔ HeadP n Z k:=by
 constructor
 ·rintro ⟨p,hp,rfl⟩ X hX h0 hj
  have:=((S.z X).1 hX).1 p hp
  rw [lin_lead (k:=h p) (by omega) (fun j hj=>S.lead p hp j hj) (fun j h1 h2=>by
   by_cases e:j=n
   ·rw [e];exact h0
   ·exact hj j h1 (by omega)),S.one p hp,Rat.one_mul] at this
  exact this
 ·intro H
  cases e:hIdx h r k with
  | some q=>obtain ⟨a,b⟩:=hIdx_some e;exact ⟨q,a,b⟩
  | none=>
   obtain ⟨X,hX,h0,h1,h2,h3⟩:=S.delta hk e
   have:=H X hX h0 fun j hj hjn=>by
    cases e':hIdx h r j with
    | none=>exact h2 j e' (by omega)
    | some q=>
     obtain ⟨a,b⟩:=hIdx_some e'
     rw [<- b,h3 q a,S.lead q a k (by omega)];rfl
   rw [h1] at this
   exact absurd this (by decide)
theorem lin_only {N:Nat} {a x:Nat -> Rat} {k n:Nat} (hk:k < n) (hN:N=n+1) (h1:∀ j,j < n -> j ≠ k -> a j=0):lin N a x=a k * x k+a n * x n:=by
 subst hN
 unfold lin
 rw [sm]
 congr 1
 have e:sm n (fun j=>a j * x j)=sm n (fun j=>if j=k then a k * x k else 0):=sm_congr fun j hj=>by
  by_cases c:j=k
  ·rw [if_pos c,c]
  ·rw [if_neg c,h1 j hj c,Rat.zero_mul]
 rw [e,sm_one (p:=k) (fun j hj=>if_neg hj) hk,if_pos rfl]
theorem SysS.det (S:SysS n Z r R h cl) {k:Nat} (hk:k < n):(∃ p,p < r /\ h p=k /\ ∀ j,j < n -> j ≠ k -> R p j=0) ↔ DetP n Z k:=by
 constructor
 ·rintro ⟨p,hp,rfl,hj⟩ X hX h0
  have:=((S.z X).1 hX).1 p hp
  rw [lin_only hk rfl hj,S.one p hp,h0,Rat.one_mul,Rat.mul_zero,Rat.add_zero] at this
  exact this
 ·intro H
  cases e:hIdx h r k with
  | none=>
   obtain ⟨X,hX,h0,h1,_,_⟩:=S.delta hk e
   have:=H X hX h0
   rw [h1] at this
   exact absurd this (by decide)
  | some p=>
   obtain ⟨hp,rfl⟩:=hIdx_some e
   refine ⟨p,hp,rfl,fun j hj hjk=>?_⟩
   cases e':hIdx h r j with
   | some q=>
    obtain ⟨a,b⟩:=hIdx_some e'
    rw [<- b]
    exact S.col q p a hp fun x=>hjk (by rw [<- b,x])
   | none=>
    obtain ⟨X,hX,h0,_,_,h3⟩:=S.delta hj e'
    have:=H X hX h0
    rw [h3 p hp] at this
    grind
theorem SysS.val (S:SysS n Z r R h cl) {p:Nat} (hp:p < r) (hj:∀ j,j < n -> j ≠ h p -> R p j=0) {X:Nat -> Rat} (hX:Z X) (h1:X n=-1):X (h p)=R p n:=by
 have:=((S.z X).1 hX).1 p hp
 rw [lin_only (S.lt p hp) rfl hj,S.one p hp,h1,Rat.one_mul] at this
 grind
theorem SysS.full (S:SysS n Z r R h cl):r <= n /\ (r=n ↔ ∀ k,k < n -> DetP n Z k):=by
 have le:r <= n:=inj_le r n h S.lt S.inj
 refine ⟨le,fun e k hk=>?_,fun H=>?_⟩
 ·
  have all:∀ k,k < n -> ∃ p,p < r /\ h p=k:=by
   intro k hk
   cases e':hIdx h r k with
   | some q=>obtain ⟨a,b⟩:=hIdx_some e';exact ⟨q,a,b⟩
   | none=>
    have ne:=hIdx_none e'
    have:=inj_le (r+1) n (fun p=>if p=r then k else h p) (fun p hp=>by
     show (if p=r then k else h p) < n
     split
     ·exact hk
     ·exact S.lt p (by omega)) (fun p q hp hq x=>by
     change (if p=r then k else h p)=(if q=r then k else h q) at x
     split at x <;> split at x
     ·omega
     ·exact absurd x.symm (ne q (by omega))
     ·exact absurd x (ne p (by omega))
     ·exact S.inj p q (by omega) (by omega) x)
    omega
  obtain ⟨p,hp,hpk⟩:=all k hk
  refine (S.det hk).1 ⟨p,hp,hpk,fun j hj hjk=>?_⟩
  obtain ⟨q,hq,hqj⟩:=all j hj
  rw [<- hqj]
  exact S.col q p hq hp fun x=>hjk (by rw [<- hqj,<- x,hpk])
 ·have:n <= r:=by
   have ch:∀ k,k < n -> ∃ p,p < r /\ h p=k:=fun k hk=>by
    obtain ⟨p,a,b,_⟩:=(S.det hk).2 (H k hk);exact ⟨p,a,b⟩
   refine inj_le n r (fun k=>(hIdx h r k).getD 0) (fun k hk=>?_) (fun k k' hk hk' x=>?_)
   ·obtain ⟨p,hp,rfl⟩:=ch k hk
    rw [S.idx hp];exact hp
   ·obtain ⟨p,hp,rfl⟩:=ch k hk
    obtain ⟨q,hq,rfl⟩:=ch k' hk'
    change (hIdx h r (h p)).getD 0=(hIdx h r (h q)).getD 0 at x
    rw [S.idx hp,S.idx hq] at x
    change p=q at x
    rw [x]
  omega
end
theorem rank_le {n r r':Nat} {Z Z':(Nat -> Rat) -> Prop} {R R':Mat} {h h':Nat -> Nat} {cl cl':Prop} (S:SysS n Z r R h cl) (S':SysS n Z' r' R' h' cl') (H:∀ k,k < n -> HeadP n Z k -> HeadP n Z' k):r <= r':=by
 have ch:∀ p,p < r -> ∃ q,q < r' /\ h' q=h p:=fun p hp=>(S'.head (S.lt p hp)).2 (H _ (S.lt p hp) ((S.head (S.lt p hp)).1 ⟨p,hp,rfl⟩))
 refine inj_le r r' (fun p=>(hIdx h' r' (h p)).getD 0) (fun p hp=>?_) (fun p q hp hq x=>?_)
 ·obtain ⟨p',hp',e⟩:=ch p hp
  rw [<- e,S'.idx hp'];exact hp'
 ·obtain ⟨p',hp',e⟩:=ch p hp
  obtain ⟨q',hq',e'⟩:=ch q hq
  change (hIdx h' r' (h p)).getD 0=(hIdx h' r' (h q)).getD 0 at x
  rw [<- e,<- e',S'.idx hp',S'.idx hq'] at x
  change p'=q' at x
  exact S.inj p q hp hq (by rw [<- e,<- e',x])
theorem rank_eq {n r r':Nat} {Z Z':(Nat -> Rat) -> Prop} {R R':Mat} {h h':Nat -> Nat} {cl cl':Prop} (S:SysS n Z r R h cl) (S':SysS n Z' r' R' h' cl') (H:∀ k,k < n -> (HeadP n Z k ↔ HeadP n Z' k)):r=r':=
 Nat.le_antisymm (rank_le S S' fun k hk=>(H k hk).1) (rank_le S' S fun k hk=>(H k hk).2)
theorem rank_one {n r r':Nat} {Z Z':(Nat -> Rat) -> Prop} {R R':Mat} {h h':Nat -> Nat} {cl cl':Prop} (S:SysS n Z r R h cl) (S':SysS n Z' r' R' h' cl')
  (H:∀ k k',k < n -> k' < n -> k < k' -> HeadP n Z' k -> HeadP n Z' k' -> HeadP n Z k \/ HeadP n Z k'):r' <= r+1:=by
 have cl1:∀ p q,p < r' -> q < r' -> p ≠ q -> HeadP n Z (h' p) \/ HeadP n Z (h' q):=by
  intro p q hp hq hpq
  have hP:=(S'.head (S'.lt p hp)).1 ⟨p,hp,rfl⟩
  have hQ:=(S'.head (S'.lt q hq)).1 ⟨q,hq,rfl⟩
  rcases Nat.lt_trichotomy (h' p) (h' q) with c | c | c
  ·exact H _ _ (S'.lt p hp) (S'.lt q hq) c hP hQ
  ·exact absurd (S'.inj p q hp hq c) hpq
  ·exact (H _ _ (S'.lt q hq) (S'.lt p hp) c hQ hP).symm
 refine inj_le r' (r+1) (fun p=>(hIdx h r (h' p)).getD r) (fun p hp=>?_) (fun p q hp hq x=>?_)
 ·cases e:hIdx h r (h' p) with
  | none=>exact Nat.lt_succ_self r
  | some q=>exact Nat.lt_succ_of_lt (hIdx_some e).1
 ·refine Classical.byContradiction fun hpq=>?_
  change (hIdx h r (h' p)).getD r=(hIdx h r (h' q)).getD r at x
  have hit:∀ p,p < r' -> HeadP n Z (h' p) -> ∃ t,hIdx h r (h' p)=some t:=fun p hp hh=>by
   obtain ⟨t,ht,e⟩:=(S.head (S'.lt p hp)).2 hh
   rw [<- e,S.idx ht];exact ⟨t,rfl⟩
  have both:∀ a b,hIdx h r (h' p)=some a -> hIdx h r (h' q)=some b -> False:=fun a b ea eb=>by
   rw [ea,eb] at x
   change a=b at x
   have e1:=(hIdx_some ea).2
   have e2:=(hIdx_some eb).2
   exact hpq (S'.inj p q hp hq (by rw [<- e1,<- e2,x]))
  rcases cl1 p q hp hq hpq with hh | hh
  ·obtain ⟨a,ea⟩:=hit p hp hh
   cases eb:hIdx h r (h' q) with
   | some b=>exact both a b ea eb
   | none=>
    rw [ea,eb] at x
    have:=(hIdx_some ea).1
    change a=r at x
    omega
  ·obtain ⟨b,eb⟩:=hit q hq hh
   cases ea:hIdx h r (h' p) with
   | some a=>exact both a b ea eb
   | none=>
    rw [ea,eb] at x
    have:=(hIdx_some eb).1
    change r=b at x
    omega
def clashM (n m:Nat) (s:LS):Prop:=∃ i,s.hs.length <= i /\ i < m /\ s.M i n ≠ 0
theorem lin_last {n:Nat} {a x:Nat -> Rat} (h:∀ j,j < n -> a j=0):lin (n+1) a x=a n * x n:=by
 unfold lin
 rw [sm,sm_zero fun j hj=>by rw [h j hj,Rat.zero_mul],Rat.zero_add]
theorem red_sys (n m:Nat) (M:Mat):SysS n (nullM (n+1) m M) (redK m M n).hs.length (redK m M n).M (hd (redK m M n).hs) (clashM n m (redK m M n)):=by
 have I:=red_inv m M n
 have zz:=fun X=>red_null (n+1) m M X n
 generalize redK m M n=s at *
 refine ⟨I.lt,fun p q hp hq e=>?_,I.one,fun p q hp hq hqp=>I.col p hp q (by have:=I.r;omega) hqp,I.lead,fun X=>?_⟩
 ·rcases Nat.lt_trichotomy p q with c | c | c
  ·have:=I.inc p q c hq;omega
  ·exact c
  ·have:=I.inc q p c hp;omega
 ·rw [<- zz X]
  constructor
  ·intro H
   refine ⟨fun p hp=>H p (by have:=I.r;omega),?_⟩
   rintro ⟨i,h1,h2,h3⟩
   have:=H i h2
   rw [lin_last (I.low i h1 h2)] at this
   rcases Rat.mul_eq_zero.1 this with x | x
   ·exact absurd x h3
   ·exact x
  ·rintro ⟨h1,h2⟩ i hi
   by_cases c:i < s.hs.length
   ·exact h1 i c
   ·rw [lin_last (I.low i (by omega) hi)]
    by_cases e:s.M i n=0
    ·rw [e,Rat.zero_mul]
    ·rw [h2 ⟨i,by omega,hi,e⟩,Rat.mul_zero]
end Go.Eng
end
section
namespace Go.Eng
def leadG (r:Nat -> Rat):Nat -> Nat -> Nat
 | 0,j=>j
 | d+1,j=>if r j ≠ 0 then j else leadG r d (j+1)
def leadN (n:Nat) (r:Nat -> Rat):Nat:=leadG r n 0
theorem leadG_ge (r:Nat -> Rat):∀ d j,j <= leadG r d j /\ leadG r d j <= j+d
 | 0,j=>⟨Nat.le_refl _,Nat.le_refl _⟩
 | d+1,j=>by
  unfold leadG
  split
  ·omega
  ·have:=leadG_ge r d (j+1);omega
theorem leadG_z (r:Nat -> Rat):∀ d j i,j <= i -> i < leadG r d j -> r i=0
 | 0,j,i,h1,h2=>by unfold leadG at h2;omega
 | d+1,j,i,h1,h2=>by
  unfold leadG at h2
  split at h2
  ·omega
  ·rename_i c
   by_cases e:i=j
   ·rw [e];exact Classical.byContradiction c
   ·exact leadG_z r d (j+1) i (by omega) h2
theorem leadG_ne (r:Nat -> Rat):∀ d j,leadG r d j < j+d -> r (leadG r d j) ≠ 0
 | 0,j,h=>by unfold leadG at h;omega
 | d+1,j,h=>by
  unfold leadG at h ⊢
  split
  ·assumption
  ·rename_i c
   rw [if_neg c] at h
   exact leadG_ne r d (j+1) (by omega)
theorem leadN_le (n:Nat) (r:Nat -> Rat):leadN n r <= n:=by have:=(leadG_ge r n 0).2;unfold leadN;omega
theorem leadN_z {n:Nat} {r:Nat -> Rat} {j:Nat} (h:j < leadN n r):r j=0:=leadG_z r n 0 j (by omega) h
theorem leadN_ne {n:Nat} {r:Nat -> Rat} (h:leadN n r < n):r (leadN n r) ≠ 0:=leadG_ne r n 0 (by unfold leadN at h;omega)
theorem leadN_of {n:Nat} {r:Nat -> Rat} {k:Nat} (hk:k < n) (h1:∀ j,j < k -> r j=0) (h2:r k ≠ 0):leadN n r=k:=by
 rcases Nat.lt_trichotomy (leadN n r) k with c | c | c
 ·exact absurd (h1 _ c) (leadN_ne (by omega))
 ·exact c
 ·exact absurd (leadN_z c) h2
abbrev Row:=Nat -> Rat
def clean1 (n:Nat) (r o:Row):Row:=fun j=>r j - o j * r (leadN n o)
def cleanR (n:Nat) (out:List Row) (r:Row):Row:=out.foldl (clean1 n) r
def refStep (n:Nat) (s:List Row × Bool) (row:Row):List Row × Bool:=
 let r:=cleanR n s.1 row
 let k:=leadN n r
 if k=n then (s.1,s.2 && decide (r n=0))
 else (s.1.map (fun o j=>o j - r j * (1 / r k) * o k) ++ [fun j=>r j * (1 / r k)],s.2)
def refRed (n:Nat) (rows:List Row):List Row × Bool:=rows.foldl (refStep n) ([],true)
def rowAt (out:List Row) (p:Nat):Row:=(out[p]?).getD (fun _=>0)
theorem rowAt_some {out:List Row} {p:Nat} (h:p < out.length):out[p]?=some (rowAt out p):=by unfold rowAt;rw [List.getElem?_eq_getElem h];rfl
theorem rowAt_mem {out:List Row} {p:Nat} (h:p < out.length):rowAt out p ∈ out:=List.mem_of_getElem? (rowAt_some h)
theorem mem_rowAt {out:List Row} {o:Row} (h:o ∈ out):∃ p,p < out.length /\ rowAt out p=o:=by
 obtain ⟨p,hp⟩:=List.getElem?_of_mem h
 exact ⟨p,(List.getElem?_eq_some_iff.1 hp).1,by unfold rowAt;rw [hp];rfl⟩
structure PInv (n:Nat) (out:List Row):Prop where
 lt:∀ p,p < out.length -> leadN n (rowAt out p) < n
 one:∀ p,p < out.length -> rowAt out p (leadN n (rowAt out p))=1
 col:∀ p q,p < out.length -> q < out.length -> q ≠ p -> rowAt out q (leadN n (rowAt out p))=0
theorem clean_take {n:Nat} {out:List Row} (H:PInv n out) (r:Row):∀ t,t <= out.length -> ∀ p,p < t -> cleanR n (out.take t) r (leadN n (rowAt out p))=0
 | 0,_,p,hp=>by omega
 | t+1,ht,p,hp=>by
  have e:out.take (t+1)=out.take t ++ [rowAt out t]:=by rw [List.take_add_one,rowAt_some (by omega)];rfl
  rw [e,cleanR,List.foldl_append]
  show clean1 n (cleanR n (out.take t) r) (rowAt out t) _=0
  unfold clean1
  by_cases c:p=t
  ·rw [c,H.one t (by omega),Rat.one_mul,Rat.sub_self]
  ·rw [clean_take H r t (by omega) p (by omega),H.col p t (by omega) (by omega) (by omega),Rat.zero_mul,Rat.sub_self]
theorem clean_col {n:Nat} {out:List Row} (H:PInv n out) (r:Row) {p:Nat} (hp:p < out.length):cleanR n out r (leadN n (rowAt out p))=0:=by
 have:=clean_take H r out.length (Nat.le_refl _) p hp
 rw [List.take_length] at this
 exact this
theorem clean_lin {n N:Nat} {X:Row}:∀ (out:List Row) (r:Row),(∀ o ∈ out,lin N o X=0) -> lin N (cleanR n out r) X=lin N r X
 | [],r,_=>rfl
 | o :: out,r,h=>by
  show lin N (cleanR n out (clean1 n r o)) X=_
  rw [clean_lin out _ fun o' h'=>h o' (List.mem_cons_of_mem _ h')]
  have e:clean1 n r o=fun j=>r j - r (leadN n o) * o j:=by funext j;unfold clean1;rw [Rat.mul_comm]
  rw [e,lin_sub,h o List.mem_cons_self,Rat.mul_zero];grind
theorem rowAt_map {out:List Row} {f:Row -> Row} {r:Row} {p:Nat}:p < out.length -> rowAt (out.map f ++ [r]) p=f (rowAt out p):=fun hp=>by
 show ((out.map f ++ [r])[p]?).getD _=_
 rw [List.getElem?_append_left (by rw [List.length_map];exact hp),List.getElem?_map,rowAt_some hp];rfl
theorem rowAt_last {out:List Row} {f:Row -> Row} {r:Row}:rowAt (out.map f ++ [r]) out.length=r:=by
 show ((out.map f ++ [r])[out.length]?).getD _=_
 rw [List.getElem?_append_right (by rw [List.length_map];exact Nat.le_refl _),List.length_map,Nat.sub_self];rfl
theorem refStep_inv {n:Nat} {s:List Row × Bool} (H:PInv n s.1) (row:Row):PInv n (refStep n s row).1:=by
 unfold refStep
 simp only
 split
 ·exact H
 ·rename_i hk
  have hkn:leadN n (cleanR n s.1 row) < n:=by have:=leadN_le n (cleanR n s.1 row);omega
  have nz:=leadN_ne hkn
  have lz:∀ j,j < leadN n (cleanR n s.1 row) -> cleanR n s.1 row j=0:=fun j hj=>leadN_z hj
  have cz:∀ p,p < s.1.length -> cleanR n s.1 row (leadN n (rowAt s.1 p))=0:=fun p hp=>clean_col H row hp
  generalize cleanR n s.1 row=r at *
  obtain ⟨k,ek⟩:∃ k,leadN n r=k:=⟨_,rfl⟩
  rw [ek] at nz lz hkn
  simp only [ek]
  generalize s.1=out at *
  have sub0:∀ a:Rat,a - 0=a:=fun a=>by grind
  have rk:r k * (1 / r k)=1:=by rw [Rat.div_def,Rat.one_mul];exact Rat.mul_inv_cancel _ nz
  have hl:∀ p,p < out.length -> leadN n (fun j=>rowAt out p j - r j * (1 / r k) * rowAt out p k)=leadN n (rowAt out p):=by
   intro p hp
   refine leadN_of (H.lt p hp) (fun j hj=>?_) ?_
   ·rw [leadN_z hj]
    by_cases c:j < k
    ·rw [lz j c,Rat.zero_mul,Rat.zero_mul,sub0]
    ·rw [leadN_z (show k < leadN n (rowAt out p) by omega),Rat.mul_zero,sub0]
   ·rw [cz p hp,Rat.zero_mul,Rat.zero_mul,H.one p hp,sub0]
    decide
  have hr:leadN n (fun j=>r j * (1 / r k))=k:=leadN_of hkn (fun j hj=>by rw [lz j hj,Rat.zero_mul]) (by rw [rk];decide)
  have ln:(out.map (fun o j=>o j - r j * (1 / r k) * o k) ++ [fun j=>r j * (1 / r k)]).length=out.length+1:=by simp
  have at1:∀ p,p < out.length -> rowAt (out.map (fun o j=>o j - r j * (1 / r k) * o k) ++ [fun j=>r j * (1 / r k)]) p=fun j=>rowAt out p j - r j * (1 / r k) * rowAt out p k:=fun p hp=>rowAt_map (f:=fun o j=>o j - r j * (1 / r k) * o k) hp
  have at2:rowAt (out.map (fun o j=>o j - r j * (1 / r k) * o k) ++ [fun j=>r j * (1 / r k)]) out.length=fun j=>r j * (1 / r k):=rowAt_last
  constructor
  ·intro p hp
   rw [ln] at hp
   by_cases e:p=out.length
   ·rw [e,at2,hr];exact hkn
   ·rw [at1 p (by omega),hl p (by omega)];exact H.lt p (by omega)
  ·intro p hp
   rw [ln] at hp
   by_cases e:p=out.length
   ·rw [e,at2,hr];exact rk
   ·rw [at1 p (by omega),hl p (by omega)]
    show rowAt out p _ - r _ * _ * _=1
    rw [cz p (by omega),Rat.zero_mul,Rat.zero_mul,H.one p (by omega),sub0]
  ·intro p q hp hq hqp
   rw [ln] at hp hq
   by_cases e:p=out.length
   ·rw [e,at2,hr,at1 q (by omega)]
    show rowAt out q k - r k * (1 / r k) * rowAt out q k=0
    rw [rk,Rat.one_mul,Rat.sub_self]
   ·rw [at1 p (by omega),hl p (by omega)]
    by_cases e':q=out.length
    ·rw [e',at2]
     show r _ * _=0
     rw [cz p (by omega),Rat.zero_mul]
    ·rw [at1 q (by omega)]
     show rowAt out q _ - r _ * _ * _=0
     rw [cz p (by omega),Rat.zero_mul,Rat.zero_mul,H.col p q (by omega) (by omega) hqp,sub0]
def RedZ (n:Nat) (s:List Row × Bool) (X:Row):Prop:=(∀ o ∈ s.1,lin (n+1) o X=0) /\ (s.2=false -> X n=0)
theorem refStep_z {n:Nat} {s:List Row × Bool} (H:PInv n s.1) (row X:Row):RedZ n (refStep n s row) X ↔ RedZ n s X /\ lin (n+1) row X=0:=by
 unfold refStep RedZ
 simp only
 split
 ·rename_i hk
  have lz:∀ j,j < n -> cleanR n s.1 row j=0:=fun j hj=>leadN_z (n:=n) (by omega)
  constructor
  ·rintro ⟨h1,h2⟩
   have cl:=clean_lin (n:=n) (N:=n+1) (X:=X) s.1 row h1
   rw [lin_last lz] at cl
   refine ⟨⟨h1,fun e=>h2 (by rw [e];rfl)⟩,?_⟩
   rw [<- cl]
   by_cases e:cleanR n s.1 row n=0
   ·rw [e,Rat.zero_mul]
   ·rw [h2 (by rw [decide_eq_false e,Bool.and_false]),Rat.mul_zero]
  ·rintro ⟨⟨h1,h2⟩,h3⟩
   have cl:=clean_lin (n:=n) (N:=n+1) (X:=X) s.1 row h1
   rw [lin_last lz,h3] at cl
   refine ⟨h1,fun e=>?_⟩
   cases es:s.2 with
   | false=>exact h2 es
   | true=>
    rw [es,Bool.true_and] at e
    have nz:=of_decide_eq_false e
    rcases Rat.mul_eq_zero.1 cl with x | x
    ·exact absurd x nz
    ·exact x
 ·rename_i hk
  have hkn:leadN n (cleanR n s.1 row) < n:=by have:=leadN_le n (cleanR n s.1 row);omega
  have nz:=leadN_ne hkn
  have cl:=fun h=>clean_lin (n:=n) (N:=n+1) (X:=X) s.1 row h
  have cz:∀ p,p < s.1.length -> cleanR n s.1 row (leadN n (rowAt s.1 p))=0:=fun p hp=>clean_col H row hp
  generalize cleanR n s.1 row=r at *
  obtain ⟨k,ek⟩:∃ k,leadN n r=k:=⟨_,rfl⟩
  rw [ek] at nz
  simp only [ek]
  have er:lin (n+1) (fun j=>r j * (1 / r k)) X=lin (n+1) r X * (1 / r k):=lin_mul _ _ _ _
  have eo:∀ o:Row,lin (n+1) (fun j=>o j - r j * (1 / r k) * o k) X=lin (n+1) o X - o k * (lin (n+1) r X * (1 / r k)):=fun o=>by
   have e:(fun j=>o j - r j * (1 / r k) * o k)=fun j=>o j - o k * (r j * (1 / r k)):=by funext j;rw [Rat.mul_comm (o k)]
   rw [e,lin_sub (n+1) o (fun j=>r j * (1 / r k)),er]
  constructor
  ·rintro ⟨h1,h2⟩
   have hr:lin (n+1) (fun j=>r j * (1 / r k)) X=0:=h1 _ (List.mem_append_right _ (List.mem_singleton.2 rfl))
   rw [er] at hr
   have hr0:lin (n+1) r X=0:=by
    rcases Rat.mul_eq_zero.1 hr with x | x
    ·exact x
    ·exfalso
     have:r k * (1 / r k)=1:=by rw [Rat.div_def,Rat.one_mul];exact Rat.mul_inv_cancel _ nz
     rw [x,Rat.mul_zero] at this
     exact absurd this (by decide)
   have h1':∀ o ∈ s.1,lin (n+1) o X=0:=fun o ho=>by
    have:=h1 _ (List.mem_append_left _ (List.mem_map.2 ⟨o,ho,rfl⟩))
    rw [eo,hr0,Rat.zero_mul,Rat.mul_zero] at this
    grind
   exact ⟨⟨h1',h2⟩,by rw [<- cl h1'];exact hr0⟩
  ·rintro ⟨⟨h1,h2⟩,h3⟩
   have hr0:lin (n+1) r X=0:=(cl h1).trans h3
   refine ⟨fun o ho=>?_,h2⟩
   rw [List.mem_append] at ho
   rcases ho with ho | ho
   ·obtain ⟨o',ho',rfl⟩:=List.mem_map.1 ho
    rw [eo,hr0,Rat.zero_mul,Rat.mul_zero,h1 o' ho',Rat.sub_self]
   ·rw [List.mem_singleton] at ho
    subst ho
    rw [er,hr0,Rat.zero_mul]
theorem foldl_ref {n:Nat} {X:Row}:∀ (rows:List Row) (s:List Row × Bool),PInv n s.1 -> PInv n (rows.foldl (refStep n) s).1 /\ (RedZ n (rows.foldl (refStep n) s) X ↔ RedZ n s X /\ ∀ row ∈ rows,lin (n+1) row X=0)
 | [],s,H=>⟨H,fun h=>⟨h,fun _ h'=>by cases h'⟩,fun h=>h.1⟩
 | row :: rows,s,H=>by
  obtain ⟨a,b⟩:=foldl_ref (X:=X) rows (refStep n s row) (refStep_inv H row)
  refine ⟨a,b.trans ?_⟩
  rw [refStep_z H]
  constructor
  ·rintro ⟨⟨h1,h2⟩,h3⟩
   exact ⟨h1,fun r hr=>by
    rcases List.mem_cons.1 hr with e | e
    ·rw [e];exact h2
    ·exact h3 r e⟩
  ·rintro ⟨h1,h2⟩
   exact ⟨⟨h1,h2 row List.mem_cons_self⟩,fun r hr=>h2 r (List.mem_cons_of_mem _ hr)⟩
def nullL (n:Nat) (rows:List Row) (X:Row):Prop:=∀ row ∈ rows,lin (n+1) row X=0
theorem ref_sys (n:Nat) (rows:List Row):SysS n (nullL n rows) (refRed n rows).1.length (rowAt (refRed n rows).1) (fun p=>leadN n (rowAt (refRed n rows).1 p)) ((refRed n rows).2=false):=by
 have z0:PInv n ([]:List Row):=⟨fun p hp=>absurd hp (Nat.not_lt_zero p),fun p hp=>absurd hp (Nat.not_lt_zero p),fun p q hp=>absurd hp (Nat.not_lt_zero p)⟩
 have H:=(foldl_ref (n:=n) (X:=fun _=>0) rows ([],true) z0).1
 have zz:=fun X=>(foldl_ref (n:=n) (X:=X) rows ([],true) z0).2
 have e:rows.foldl (refStep n) ([],true)=refRed n rows:=rfl
 rw [e] at H
 refine ⟨H.lt,fun p q hp hq e=>?_,H.one,fun p q hp hq hqp=>H.col p q hp hq hqp,fun p hp j hj=>leadN_z hj,fun X=>?_⟩
 ·refine Classical.byContradiction fun c=>?_
  have a:=H.col p q hp hq (fun x=>c x.symm)
  have b:=H.one q hq
  have e':leadN n (rowAt (refRed n rows).1 p)=leadN n (rowAt (refRed n rows).1 q):=e
  rw [e',b] at a
  exact absurd a (by decide)
 ·have:=zz X
  rw [e] at this
  constructor
  ·intro h
   obtain ⟨a,b⟩:=this.2 ⟨⟨(fun o ho=>by cases ho),(fun x=>by cases x)⟩,h⟩
   exact ⟨fun p hp=>a _ (rowAt_mem hp),b⟩
  ·rintro ⟨a,b⟩
   exact (this.1 ⟨fun o ho=>by obtain ⟨p,hp,rfl⟩:=mem_rowAt ho;exact a p hp,b⟩).2
structure OutP (n:Nat) (Z:(Nat -> Rat) -> Prop) (clash opn:Int) (e:Int) (l:List Rat):Prop where
 c:¬ ConP n Z -> e=clash /\ l=[]
 o:ConP n Z -> (¬ ∀ k,k < n -> DetP n Z k) -> e=opn /\ l=[]
 s:ConP n Z -> (∀ k,k < n -> DetP n Z k) -> e=0 /\ l.length=n /\ ∀ X,Z X -> X n=-1 -> ∀ k,k < n -> l[k]?=some (X k)
theorem OutP.same {n:Nat} {Z:(Nat -> Rat) -> Prop} {clash opn e e':Int} {l l':List Rat} (H:OutP n Z clash opn e l) (H':OutP n Z clash opn e' l'):e=e' /\ l=l':=by
 by_cases c:ConP n Z
 ·by_cases d:∀ k,k < n -> DetP n Z k
  ·obtain ⟨a1,a2,a3⟩:=H.s c d
   obtain ⟨b1,b2,b3⟩:=H'.s c d
   refine ⟨a1.trans b1.symm,List.ext_getElem? fun k=>?_⟩
   obtain ⟨X,hX,h1⟩:=c
   by_cases hk:k < n
   ·rw [a3 X hX h1 k hk,b3 X hX h1 k hk]
   ·rw [List.getElem?_eq_none (by omega),List.getElem?_eq_none (by omega)]
  ·obtain ⟨a1,a2⟩:=H.o c d
   obtain ⟨b1,b2⟩:=H'.o c d
   exact ⟨a1.trans b1.symm,a2.trans b2.symm⟩
 ·obtain ⟨a1,a2⟩:=H.c c
  obtain ⟨b1,b2⟩:=H'.c c
  exact ⟨a1.trans b1.symm,a2.trans b2.symm⟩
instance {n m:Nat} {s:LS}:Decidable (clashM n m s):=
 decidable_of_iff (∃ i,i < m /\ s.hs.length <= i /\ s.M i n ≠ 0) ⟨fun ⟨i,a,b,c⟩=>⟨i,b,a,c⟩,fun ⟨i,a,b,c⟩=>⟨i,b,a,c⟩⟩
def valsK (n:Nat) (s:LS):List Rat:=(List.range n).map fun k=>s.M k n
def solveK (clash opn:Int) (n m:Nat) (s:LS):Int × List Rat:=
 if clashM n m s then (clash,[]) else if s.hs.length < n then (opn,[]) else (0,valsK n s)
def detK (n:Nat) (s:LS) (k:Nat):Prop:=∃ p,p < s.hs.length /\ hd s.hs p=k /\ ∀ j,j < n -> j ≠ k -> s.M p j=0
instance {n:Nat} {s:LS} {k:Nat}:Decidable (detK n s k):=by unfold detK;infer_instance
def freeK (n:Nat) (s:LS):List Nat:=(List.range n).filter fun k=>!decide (detK n s k)
theorem full_id:∀ (n:Nat) (h:Nat -> Nat),(∀ p q,p < q -> q < n -> h p < h q) -> (∀ p,p < n -> h p < n) -> ∀ p,p < n -> h p=p:=by
 intro n h inc lt
 have lo:∀ p,p < n -> p <= h p:=by
  intro p
  induction p with
  | zero=>intro _;omega
  | succ p ih=>
   intro hp
   have:=ih (by omega)
   have:=inc p (p+1) (by omega) hp
   omega
 have up:∀ d p,p+d+1=n -> h p <= p:=by
  intro d
  induction d with
  | zero=>intro p hp;have:=lt p (by omega);omega
  | succ d ih=>
   intro p hp
   have:=ih (p+1) (by omega)
   have:=inc p (p+1) (by omega) (by omega)
   omega
 intro p hp
 have:=lo p hp
 have:=up (n - 1 - p) p (by omega)
 omega
theorem solveK_out (clash opn:Int) (n m:Nat) (M:Mat):OutP n (nullM (n+1) m M) clash opn (solveK clash opn n m (redK m M n)).1 (solveK clash opn n m (redK m M n)).2:=by
 have S:=red_sys n m M
 have I:=red_inv m M n
 generalize redK m M n=s at *
 have F:=S.full
 refine ⟨fun c=>?_,fun c d=>?_,fun c d=>?_⟩
 ·have:clashM n m s:=Classical.byContradiction fun x=>c (S.con.2 x)
  unfold solveK;rw [if_pos this];exact ⟨rfl,rfl⟩
 ·have x:=S.con.1 c
  have lt:s.hs.length < n:=by
   have a:=F.1
   have b:s.hs.length ≠ n:=fun e=>d (F.2.1 e)
   omega
  unfold solveK;rw [if_neg x,if_pos lt];exact ⟨rfl,rfl⟩
 ·have x:=S.con.1 c
  have en:s.hs.length=n:=F.2.2 d
  unfold solveK;rw [if_neg x,if_neg (by omega)]
  refine ⟨rfl,by unfold valsK;rw [List.length_map,List.length_range],fun X hX h1 k hk=>?_⟩
  have id:=full_id n (hd s.hs) (fun p q a b=>I.inc p q a (by omega)) (fun p hp=>I.lt p (by omega))
  have hp:k < s.hs.length:=by omega
  obtain ⟨q,hq,e,hj⟩:=(S.det hk).2 (d k hk)
  have eq:q=k:=by rw [id q (by omega)] at e;exact e
  subst eq
  have v:=S.val hq (fun j hj' hne=>hj j hj' (by rw [<- e];exact hne)) hX h1
  show (valsK n s)[q]?=_
  unfold valsK
  rw [List.getElem?_map,List.getElem?_range hk]
  show some (s.M q n)=_
  rw [<- v,e]
theorem detK_iff {n m:Nat} {M:Mat} {k:Nat} (hk:k < n):detK n (redK m M n) k ↔ DetP n (nullM (n+1) m M) k:=(red_sys n m M).det hk
def heldR (n:Nat) (k:Nat):List Row -> Option Row
 | []=>none
 | o :: l=>if leadN n o=k then (if ∀ j,j < n -> j ≠ k -> o j=0 then some o else none) else heldR n k l
theorem heldR_mem {n k:Nat} {o:Row}:∀ {l:List Row},heldR n k l=some o -> o ∈ l /\ leadN n o=k /\ ∀ j,j < n -> j ≠ k -> o j=0
 | [],h=>by cases h
 | o' :: l,h=>by
  unfold heldR at h
  split at h
  ·split at h
   ·cases h;exact ⟨List.mem_cons_self,by assumption,by assumption⟩
   ·cases h
  ·obtain ⟨a,b⟩:=heldR_mem h
   exact ⟨List.mem_cons_of_mem _ a,b⟩
theorem heldR_of {n k:Nat}:∀ {l:List Row} {p:Nat},p < l.length -> leadN n (rowAt l p)=k -> (∀ q,q < l.length -> leadN n (rowAt l q)=k -> q=p) -> (∀ j,j < n -> j ≠ k -> rowAt l p j=0) -> heldR n k l=some (rowAt l p)
 | [],p,hp,_,_,_=>absurd hp (Nat.not_lt_zero p)
 | o :: l,0,hp,e,_,hj=>by
  have e0:rowAt (o :: l) 0=o:=rfl
  rw [e0] at e hj ⊢
  unfold heldR;rw [if_pos e,if_pos hj]
 | o :: l,p+1,hp,e,hu,hj=>by
  have e1:∀ q,rowAt (o :: l) (q+1)=rowAt l q:=fun q=>rfl
  have ne:leadN n o ≠ k:=fun x=>by have:=hu 0 (by simp) x;omega
  unfold heldR
  rw [if_neg ne,e1]
  rw [e1] at e hj
  exact heldR_of (by simpa using hp) e (fun q hq hqe=>by have:=hu (q+1) (by simpa using hq) (by rw [e1];exact hqe);omega) hj
def valsR (n:Nat) (l:List Row):Nat -> Option (List Rat)
 | 0=>some []
 | k+1=>match valsR n l k,heldR n k l with
  | some v,some o=>some (v ++ [o n])
  | _,_=>none
def solveR (clash opn:Int) (n:Nat) (s:List Row × Bool):Int × List Rat:=
 if s.2=false then (clash,[]) else match valsR n s.1 n with
  | some v=>(0,v)
  | none=>(opn,[])
def freeR (n:Nat) (s:List Row × Bool):List Nat:=if s.2=false then [] else (List.range n).filter fun k=>(heldR n k s.1).isNone
theorem heldR_iff {n:Nat} {rows:List Row} {k:Nat} (hk:k < n):(heldR n k (refRed n rows).1).isSome ↔ DetP n (nullL n rows) k:=by
 have S:=ref_sys n rows
 rw [<- S.det hk]
 constructor
 ·intro h
  obtain ⟨o,ho⟩:=Option.isSome_iff_exists.1 h
  obtain ⟨a,b,c⟩:=heldR_mem ho
  obtain ⟨p,hp,rfl⟩:=mem_rowAt a
  exact ⟨p,hp,b,c⟩
 ·rintro ⟨p,hp,e,hj⟩
  rw [heldR_of hp e (fun q hq hqe=>S.inj q p hq hp (hqe.trans e.symm)) hj];rfl
theorem valsR_some {n:Nat} {l:List Row}:∀ {k v},valsR n l k=some v -> v.length=k /\ ∀ i,i < k -> ∃ o,heldR n i l=some o /\ v[i]?=some (o n)
 | 0,v,h=>by cases h;exact ⟨rfl,fun i hi=>absurd hi (Nat.not_lt_zero i)⟩
 | k+1,v,h=>by
  unfold valsR at h
  split at h
  ·rename_i w o hw ho
   cases h
   obtain ⟨a,b⟩:=valsR_some hw
   refine ⟨by rw [List.length_append,a];rfl,fun i hi=>?_⟩
   by_cases e:i=k
   ·subst e
    exact ⟨o,ho,by rw [List.getElem?_append_right (by omega),a,Nat.sub_self];rfl⟩
   ·obtain ⟨o',x,y⟩:=b i (by omega)
    exact ⟨o',x,by rw [List.getElem?_append_left (by omega)];exact y⟩
  ·cases h
theorem valsR_none {n:Nat} {l:List Row}:∀ {k},valsR n l k=none -> ∃ i,i < k /\ heldR n i l=none
 | 0,h=>by cases h
 | k+1,h=>by
  unfold valsR at h
  split at h
  ·cases h
  ·rename_i hno
   cases hw:valsR n l k with
   | none=>obtain ⟨i,a,b⟩:=valsR_none hw;exact ⟨i,by omega,b⟩
   | some w=>
    cases ho:heldR n k l with
    | none=>exact ⟨k,by omega,ho⟩
    | some o=>exact absurd ho (hno w o hw)
theorem solveR_out (clash opn:Int) (n:Nat) (rows:List Row):OutP n (nullL n rows) clash opn (solveR clash opn n (refRed n rows)).1 (solveR clash opn n (refRed n rows)).2:=by
 have S:=ref_sys n rows
 have D:=fun k hk=>heldR_iff (n:=n) (rows:=rows) (k:=k) hk
 generalize refRed n rows=s at *
 refine ⟨fun c=>?_,fun c d=>?_,fun c d=>?_⟩
 ·have:s.2=false:=Classical.byContradiction fun x=>c (S.con.2 x)
  unfold solveR;rw [if_pos this];exact ⟨rfl,rfl⟩
 ·have x:=S.con.1 c
  have:valsR n s.1 n=none:=by
   cases e:valsR n s.1 n with
   | none=>rfl
   | some v=>
    refine absurd (fun k hk=>(D k hk).1 ?_) d
    obtain ⟨o,ho,_⟩:=(valsR_some e).2 k hk
    rw [ho];rfl
  unfold solveR;rw [if_neg x,this];exact ⟨rfl,rfl⟩
 ·have x:=S.con.1 c
  cases e:valsR n s.1 n with
  | none=>
   obtain ⟨i,hi,hn⟩:=valsR_none e
   have:=(D i hi).2 (d i hi)
   rw [hn] at this
   cases this
  | some v=>
   obtain ⟨hl,hv⟩:=valsR_some e
   unfold solveR;rw [if_neg x,e]
   refine ⟨rfl,hl,fun X hX h1 k hk=>?_⟩
   obtain ⟨o,ho,ev⟩:=hv k hk
   obtain ⟨a,b,hj⟩:=heldR_mem ho
   obtain ⟨p,hp,rfl⟩:=mem_rowAt a
   have v':=S.val hp (fun j hj' hne=>hj j hj' (by rw [<- b];exact hne)) hX h1
   rw [b] at v'
   rw [v'];exact ev
theorem null_list {n m:Nat} {M:Mat} {rows:List Row} (hl:rows.length=m) (h:∀ i,i < m -> M i=rowAt rows i) (X:Row):nullM (n+1) m M X ↔ nullL n rows X:=by
 constructor
 ·intro H row hr
  obtain ⟨p,hp,rfl⟩:=mem_rowAt hr
  rw [<- h p (by omega)];exact H p (by omega)
 ·intro H i hi
  rw [h i hi];exact H _ (rowAt_mem (by omega))
theorem ConP_congr {n:Nat} {Z Z':Row -> Prop} (h:∀ X,Z X ↔ Z' X):Z=Z':=funext fun X=>propext (h X)
def lay (sz:Nat) (h:Heap):Value -> Option (List Value)
 | .slice none 0 0=>some []
 | .slice (some ⟨_,_,some _⟩) 0 0=>some []
 | .slice (some ⟨k,off,none⟩) len cap=>match hget h k with
  | some blk=>if len <= cap /\ off+len * sz <= blk.cells.length then some ((blk.cells.drop off).take (len * sz)) else none
  | none=>none
 | _=>none
theorem lay_mono {sz:Nat} {h h':Heap} {v:Value} {cs:List Value} (hl:hle h h') (e:lay sz h v=some cs):lay sz h' v=some cs:=by
 unfold lay at e ⊢
 split at e
 ·exact e
 ·exact e
 ·split at e
  ·rename_i blk hb
   simp only [hl _ _ hb];exact e
  ·cases e
 ·cases e
theorem lay_len {sz:Nat} {h:Heap} {v:Value} {cs:List Value} (e:lay sz h v=some cs):∃ a l c,v = .slice a l c /\ cs.length=l * sz:=by
 unfold lay at e
 split at e
 ·cases e;exact ⟨none,0,0,rfl,by simp⟩
 ·cases e;exact ⟨_,0,0,rfl,by simp⟩
 ·rename_i k off len cap
  split at e
  ·split at e
   ·rename_i hc
    cases e
    exact ⟨_,len,cap,rfl,by rw [List.length_take,List.length_drop];omega⟩
   ·cases e
  ·cases e
 ·cases e
theorem lay_pos {sz:Nat} {h:Heap} {a:Option Addr} {l c:Nat} {cs:List Value} (e:lay sz h (.slice a l c)=some cs) (hl:0 < l) :
  ∃ k off blk,a=some ⟨k,off,none⟩ /\ hget h k=some blk /\ l <= c /\ off+l * sz <= blk.cells.length /\ cs=(blk.cells.drop off).take (l * sz):=by
 unfold lay at e
 split at e
 ·rename_i e1;cases e1;omega
 ·rename_i e1;cases e1;omega
 ·rename_i k off len cap e1
  cases e1
  split at e
  ·rename_i blk hb
   split at e
   ·rename_i hc
    cases e
    exact ⟨k,off,blk,rfl,hb,hc.1,hc.2,rfl⟩
   ·cases e
  ·cases e
 ·cases e
def many {α:Type} (sz:Nat) (dec:List Value -> Option α):Nat -> List Value -> Option (List α)
 | 0,_=>some []
 | n+1,cs=>match dec (cs.take sz),many sz dec n (cs.drop sz) with
  | some a,some r=>some (a :: r)
  | _,_=>none
theorem many_get {α:Type} {sz:Nat} {dec:List Value -> Option α}:∀ {n:Nat} {cs:List Value} {xs:List α},many sz dec n cs=some xs -> xs.length=n /\ ∀ (i:Nat) (x:α),xs[i]?=some x -> dec ((cs.drop (i * sz)).take sz)=some x
 | 0,cs,xs,e=>by simp [many] at e;subst e;simp
 | n+1,cs,xs,e=>by
  unfold many at e
  split at e
  ·rename_i a r h1 h2
   cases e
   obtain ⟨g1,g2⟩:=many_get h2
   refine ⟨by simp [g1],fun i x hx=>?_⟩
   cases i with
   | zero=>simp at hx;subst hx;simpa using h1
   | succ i=>
    have:=g2 i x (by simpa using hx)
    rw [List.drop_drop] at this
    rw [Nat.succ_mul,Nat.add_comm (i * sz) sz];exact this
  ·cases e
theorem many_some {α:Type} {sz:Nat} {dec:List Value -> Option α}:∀ {n:Nat} {cs:List Value} {xs:List α},xs.length=n -> (∀ (i:Nat) (x:α),xs[i]?=some x -> dec ((cs.drop (i * sz)).take sz)=some x) -> many sz dec n cs=some xs
 | 0,cs,xs,e,_=>by
  have:=List.length_eq_zero_iff.1 e;subst this;rfl
 | n+1,cs,[],e,_=>by simp at e
 | n+1,cs,x :: xs,e,h=>by
  unfold many
  have h0:=h 0 x rfl
  simp only [Nat.zero_mul,List.drop_zero] at h0
  have hr:=many_some (n:=n) (cs:=cs.drop sz) (xs:=xs) (by simpa using e) (fun i y hy=>by
   have:=h (i+1) y (by simpa using hy)
   rw [Nat.succ_mul,Nat.add_comm (i * sz) sz,<- List.drop_drop] at this
   exact this)
  rw [h0,hr]
theorem many_mono {α:Type} {sz:Nat} {dec dec':List Value -> Option α} (hd:∀ cs a,dec cs=some a -> dec' cs=some a) {n:Nat} {cs:List Value} {xs:List α} (e:many sz dec n cs=some xs):many sz dec' n cs=some xs:=by
 obtain ⟨h1,h2⟩:=many_get e
 exact many_some h1 (fun i x hx=>hd _ _ (h2 i x hx))
def slen:Value -> Nat
 | .slice _ l _=>l
 | _=>0
def listAt {α:Type} (sz:Nat) (dec:List Value -> Option α) (h:Heap) (v:Value):Option (List α):=(lay sz h v).bind (many sz dec (slen v))
theorem listAt_mono {α:Type} {sz:Nat} {dec dec':List Value -> Option α} {h h':Heap} {v:Value} {xs:List α} (hl:hle h h') (hd:∀ cs a,dec cs=some a -> dec' cs=some a) (e:listAt sz dec h v=some xs):listAt sz dec' h' v=some xs:=by
 unfold listAt at e ⊢
 rw [Option.bind_eq_some_iff] at e ⊢
 obtain ⟨cs,e1,e2⟩:=e
 exact ⟨cs,lay_mono hl e1,many_mono hd e2⟩
theorem listAt_sl {α:Type} {sz:Nat} {dec:List Value -> Option α} {h:Heap} {v:Value} {xs:List α} (e:listAt sz dec h v=some xs):∃ a c,v = .slice a xs.length c:=by
 unfold listAt at e
 rw [Option.bind_eq_some_iff] at e
 obtain ⟨cs,e1,e2⟩:=e
 obtain ⟨a,l,c,rfl,_⟩:=lay_len e1
 have:=(many_get e2).1
 exact ⟨a,c,by rw [this];rfl⟩
theorem listAt_get {α:Type} {sz:Nat} {dec:List Value -> Option α} {h:Heap} {a:Option Addr} {c:Nat} {xs:List α} {l:Nat} (e:listAt sz dec h (.slice a l c)=some xs) (hp:0 < l) :
  ∃ k off blk,a=some ⟨k,off,none⟩ /\ hget h k=some blk /\ l <= c /\ off+l * sz <= blk.cells.length /\ ∀ i x,xs[i]?=some x -> off+i * sz+sz <= blk.cells.length /\ dec ((blk.cells.drop (off+i * sz)).take sz)=some x:=by
 unfold listAt at e
 rw [Option.bind_eq_some_iff] at e
 obtain ⟨cs,e1,e2⟩:=e
 obtain ⟨h1,h2⟩:=many_get e2
 simp only [slen] at h1
 obtain ⟨k,off,blk,rfl,hb,hc,hle,rfl⟩:=lay_pos e1 hp
 refine ⟨k,off,blk,rfl,hb,hc,hle,fun i x hx=>?_⟩
 have hi:i < l:=by rw [<- h1];exact (List.getElem?_eq_some_iff.1 hx).1
 have hm:i * sz+sz <= l * sz:=by rw [<- Nat.succ_mul];exact Nat.mul_le_mul_right _ hi
 have:=h2 i x hx
 rw [List.drop_take,List.take_take,Nat.min_eq_left (by omega),List.drop_drop] at this
 exact ⟨by omega,this⟩
structure NewL where
 m:Nat
 val:(Nat -> Nat) -> Value
 elem:Nat -> Nat
 sz:Nat -> Nat
 cells:(Nat -> Nat) -> Nat -> List Value
structure NewL.Par (r:NewL) (h:Heap):Prop where
 val:∀ (β:Emb) (σ σ':Nat -> Nat),(∀ i,i < r.m -> β (σ i)=some ⟨σ' i,0,[]⟩) -> (∀ k,hget h k ≠ none -> β k=some ⟨k,0,[]⟩) -> VR β (r.val σ) (r.val σ')
 cells:∀ (β:Emb) (σ σ':Nat -> Nat),(∀ i,i < r.m -> β (σ i)=some ⟨σ' i,0,[]⟩) -> (∀ k,hget h k ≠ none -> β k=some ⟨k,0,[]⟩) -> ∀ i,i < r.m -> VRs β (r.cells σ i) (r.cells σ' i)
def newH (r:NewL) (σ:Nat -> Nat):Nat -> Heap
 | 0=>[]
 | i+1=>(σ i,some ⟨r.elem i,r.sz i,false,r.cells σ i⟩) :: newH r σ i
theorem newH_old {r:NewL} {σ:Nat -> Nat} {h:Heap} {k:Nat}:∀ m,(∀ i,i < m -> σ i ≠ k) -> hget (newH r σ m ++ h) k=hget h k
 | 0,_=>rfl
 | m+1,hk=>by
  simp only [newH,List.cons_append,hget]
  rw [if_neg (hk m (by omega))]
  exact newH_old m (fun i hi=>hk i (by omega))
theorem newH_get {r:NewL} {σ:Nat -> Nat} {h:Heap}:∀ m,(∀ i j,i < m -> j < m -> σ i=σ j -> i=j) -> ∀ i,i < m -> hget (newH r σ m ++ h) (σ i)=some ⟨r.elem i,r.sz i,false,r.cells σ i⟩
 | 0,_,i,hi=>by omega
 | m+1,inj,i,hi=>by
  simp only [newH,List.cons_append,hget]
  by_cases e:σ m=σ i
  ·have:=inj m i (by omega) hi e
   subst this;simp
  ·rw [if_neg e]
   have:i ≠ m:=fun h=>e (by rw [h])
   exact newH_get m (fun a b ha hb=>inj a b (by omega) (by omega)) i (by omega)
def nwL (F:List Value -> Heap -> Option NewL):Spec:=fun args h n=>(F args h).map fun r=>(r.val (n+·),newH r (n+·) r.m,r.m)
def FinL (res:List IRes) (r:NewL) (h:Heap) (N:Nat) (e:IExit) (s:St):Prop:=
 isEnd e /\ ∃ (σ:Nat -> Nat) (vs:List Value),(∀ i,i < r.m -> N <= σ i) /\ (∀ i j,i < r.m -> j < r.m -> σ i=σ j -> i=j) /\ resL s res=some vs /\ one vs=r.val σ /\
  (∀ i,i < r.m -> ∃ x,hget s.hp (σ i)=some ⟨r.elem i,r.sz i,x,r.cells σ i⟩) /\ ∀ k,k < N -> hget s.hp k=hget h k
theorem iotaL {n m N:Nat} {σ:Nat -> Nat} (k:Nat):iotaE ((List.range m).map fun i=>(n+i,σ i)) N k=if n <= k /\ k < n+m then some ⟨σ (k - n),0,[]⟩ else if k < N then some ⟨k,0,[]⟩ else none:=by
 unfold iotaE
 by_cases c:n <= k /\ k < n+m
 ·have hf:((List.range m).map fun i=>(n+i,σ i)).find? (fun p=>p.1 == k)=some (k,σ (k - n)):=by
   rw [List.find?_map]
   have:(List.range m).find? ((fun p:Nat × Nat=>p.1 == k) ∘ fun i=>(n+i,σ i))=some (k - n):=by
    rw [List.find?_range_eq_some]
    refine ⟨by simp;omega,by simp;omega,fun j hj=>by simp;omega⟩
   rw [this];simp;omega
  rw [hf,if_pos c]
 ·have hf:((List.range m).map fun i=>(n+i,σ i)).find? (fun p=>p.1 == k)=none:=by
   rw [List.find?_eq_none]
   intro p hp
   simp only [List.mem_map,List.mem_range] at hp
   obtain ⟨i,hi,rfl⟩:=hp
   simp;omega
  rw [hf,if_neg c]
theorem newL_run {P:Program} {E:Env} (hE:EnvOK P E) (hm:P.follows .mixedOrders=true) {f:Nat} {nt:Nat} {res:List IRes} {c:ICode} (ht:trFun P f=some ⟨nt,res,c⟩) {F:List Value -> Heap -> Option NewL}
  (mono:∀ args h h' r,hle h h' -> F args h=some r -> F args h'=some r)
  (hrun:∀ args h N r,F args h=some r -> (∀ k b,hget h k=some b -> k < N) -> r.Par h /\ args.length <= nt /\ wpI E c (FinL res r h N) ⟨initT args,h,N+0⟩):SpecOK P f (nwL F):=by
 refine spec_ok hE hm ht ?_ ?_
 ·intro args h h' n o hl e
  simp only [nwL,Option.map_eq_some_iff] at e ⊢
  obtain ⟨v,e1,e2⟩:=e
  exact ⟨v,mono args h h' v hl e1,e2⟩
 ·intro args h n v δ m N e hn hN hfr
  simp only [nwL,Option.map_eq_some_iff,Prod.mk.injEq] at e
  obtain ⟨r,e1,rfl,rfl,rfl⟩:=e
  obtain ⟨par,h2,h3⟩:=hrun args h N r e1 hN
  refine ⟨h2,wpI_mono _ ?_ h3⟩
  rintro e s ⟨he,σ,vs,hσ,hinj,hvs,hvk,hblk,hh⟩
  have b1:∀ i,i < r.m -> iotaE ((List.range r.m).map fun i=>(n+i,σ i)) N (n+i)=some ⟨σ i,0,[]⟩:=fun i hi=>by
   rw [iotaL,if_pos ⟨by omega,by omega⟩,Nat.add_sub_cancel_left]
  have b2:∀ k,hget h k ≠ none -> iotaE ((List.range r.m).map fun i=>(n+i,σ i)) N k=some ⟨k,0,[]⟩:=fun k hk=>by
   have hlt:k < N:=by
    cases e:hget h k with
    | none=>exact absurd e hk
    | some b=>exact hN k b e
   rw [iotaL,if_neg (fun c=>hk (hfr k c.1 c.2)),if_pos hlt]
  refine ⟨he,vs,hvs,(List.range r.m).map fun i=>(n+i,σ i),?_,?_,?_,?_⟩
  ·intro p hp
   simp only [List.mem_map,List.mem_range] at hp
   obtain ⟨i,hi,rfl⟩:=hp
   simp only;omega
  ·rw [hvk];exact par.val _ _ _ b1 b2
  ·intro k blk e
   by_cases c:n <= k /\ k < n+r.m
   ·obtain ⟨i,rfl⟩:∃ i,k=n+i:=⟨k - n,by omega⟩
    have hi:i < r.m:=by omega
    rw [newH_get r.m (fun a b _ _ e=>by simpa using e) i hi] at e
    cases e
    obtain ⟨x,hx⟩:=hblk i hi
    exact .inr ⟨_,_,b1 i hi,hx,rfl,rfl,(fun h=>by cases h),par.cells _ _ _ b1 b2 i hi⟩
   ·rw [newH_old r.m (fun i hi e=>c (by omega))] at e
    have hlt:=hN k blk e
    exact .inl ⟨hlt,e,by rw [hh k hlt];exact e⟩
  ·intro k1 k2 L1 L2 a1 a2 c1 c2 e
   rw [iotaL] at c1 c2
   by_cases d1:n <= k1 /\ k1 < n+r.m
   ·rw [if_pos d1] at c1;cases c1
    by_cases d2:n <= k2 /\ k2 < n+r.m
    ·rw [if_pos d2] at c2;cases c2
     have:=hinj (k1 - n) (k2 - n) (by omega) (by omega) e
     omega
    ·rw [if_neg d2] at c2
     split at c2
     ·cases c2
      have:=hσ (k1 - n) (by omega)
      simp only at e;omega
     ·cases c2
   ·rw [if_neg d1] at c1
    split at c1
    ·cases c1
     by_cases d2:n <= k2 /\ k2 < n+r.m
     ·rw [if_pos d2] at c2;cases c2
      have:=hσ (k2 - n) (by omega)
      simp only at e;omega
     ·rw [if_neg d2] at c2
      split at c2
      ·cases c2;exact e
      ·cases c2
    ·cases c1
theorem a_newL {tm:List (Nat × Value)} {hp δ:Heap} {N k d m:Nat} {v:Value} {K:St -> Prop} :
  @aft (some d) (some (v,δ,m)) ⟨(⟨tm,hp,N+k⟩,K)⟩=K ⟨(d,v) :: tm,δ ++ hp,N+(k+m)⟩:=by
 simp only [aft,after,putT,Nat.add_assoc]
instance:DecidableEq RQ:=fun a b=>decidable_of_iff (a.s=b.s /\ a.n=b.n /\ a.d=b.d) ⟨fun ⟨x,y,z⟩=>by cases a;cases b;simp_all,fun e=>by subst e;exact ⟨rfl,rfl,rfl⟩⟩
instance {x:Rat} {k:Nat}:Decidable (RB x k):=by unfold RB;infer_instance
def rowC (f:Nat -> Rat):Nat -> List Value
 | 0=>[]
 | n+1=>rowC f n ++ rE (f n)
theorem rowC_len (f:Nat -> Rat):∀ n,(rowC f n).length=n * 3
 | 0=>rfl
 | n+1=>by rw [rowC,List.length_append,rowC_len f n];show n * 3+3=_;omega
theorem rowC_base (f:Nat -> Rat):∀ n,(rowC f n).all isBase=true
 | 0=>rfl
 | n+1=>by rw [rowC,List.all_append,rowC_base f n];rfl
theorem rowC_congr {f g:Nat -> Rat}:∀ {n},(∀ j,j < n -> f j=g j) -> rowC f n=rowC g n
 | 0,_=>rfl
 | n+1,h=>by rw [rowC,rowC,rowC_congr (n:=n) fun j hj=>h j (by omega),h n (by omega)]
theorem rowC_at (f:Nat -> Rat):∀ {n j},j < n -> ((rowC f n).drop (j * 3)).take 3=rE (f j)
 | 0,j,h=>absurd h (Nat.not_lt_zero j)
 | n+1,j,h=>by
  have hl:=rowC_len f n
  rw [rowC]
  by_cases e:j=n
  ·subst e
   rw [List.drop_append_of_le_length (by omega),List.drop_of_length_le (by omega),List.nil_append];rfl
  ·rw [List.drop_append_of_le_length (by omega),List.take_append_of_le_length (by rw [List.length_drop];omega)]
   exact rowC_at f (by omega)
theorem setR_app_left:∀ (xs l r:List Value) (i:Nat),i+xs.length <= l.length -> setR (l ++ r) i xs=setR l i xs ++ r
 | [],_,_,_,_=>rfl
 | x :: xs,l,r,i,h=>by
  simp only [List.length_cons] at h
  simp only [setR]
  rw [List.set_append_left _ _ (by omega)]
  exact setR_app_left xs _ r (i+1) (by rw [List.length_set];omega)
theorem setR_app_right:∀ (xs l r:List Value) (i:Nat),l.length <= i -> setR (l ++ r) i xs=l ++ setR r (i - l.length) xs
 | [],_,_,_,_=>rfl
 | x :: xs,l,r,i,h=>by
  simp only [setR]
  rw [List.set_append_right _ _ h,setR_app_right xs l _ (i+1) (by omega),Nat.sub_add_comm h]
theorem rowC_set (f:Nat -> Rat) (v:Rat):∀ {n j},j < n -> setR (rowC f n) (j * 3) (rE v)=rowC (fun q=>if q=j then v else f q) n
 | 0,j,h=>absurd h (Nat.not_lt_zero j)
 | n+1,j,h=>by
  have hl:=rowC_len f n
  rw [rowC,rowC]
  by_cases e:j=n
  ·subst e
   have ec:rowC (fun q=>if q=j then v else f q) j=rowC f j:=rowC_congr fun q hq=>if_neg (by omega)
   rw [setR_app_right _ _ _ _ (by omega),hl,Nat.sub_self,if_pos rfl,ec]
   rfl
  ·rw [setR_app_left _ _ _ _ (by show j * 3+3 <= _;omega),rowC_set f v (n:=n) (by omega),if_neg (fun x=>e x.symm)]
def decQ (cs:List Value) (j:Nat):Option RQ:=dec1 ((cs.drop (j * 3)).take 3)
def rdQ (cs:List Value) (j:Nat):Rat:=match decQ cs j with | some q=>q.v | none=>0
theorem decQ_row {f:Nat -> Rat} {n j:Nat} (h:j < n):decQ (rowC f n) j=some (RQ.of (f j)):=by unfold decQ;rw [rowC_at f h];rfl
theorem rdQ_row {f:Nat -> Rat} {n j:Nat} (h:j < n):rdQ (rowC f n) j=f j:=by unfold rdQ;rw [decQ_row h];exact RQ.of_v _
def rowB (n k:Nat) (cs:List Value):Prop:=cs.length=n * 3 /\ ∀ j,j < n -> decQ cs j=some (RQ.of (rdQ cs j)) /\ RB (rdQ cs j) k
instance {n k:Nat} {cs:List Value}:Decidable (rowB n k cs):=by unfold rowB;infer_instance
theorem rowB_of {f:Nat -> Rat} {n k:Nat} (h:∀ j,j < n -> RB (f j) k):rowB n k (rowC f n):=
 ⟨rowC_len f n,fun j hj=>by rw [rdQ_row hj,decQ_row hj];exact ⟨rfl,h j hj⟩⟩
theorem split3:∀ (n:Nat) (cs ds:List Value),cs.length=n * 3 -> ds.length=n * 3 -> (∀ j,j < n -> (cs.drop (j * 3)).take 3=(ds.drop (j * 3)).take 3) -> cs=ds
 | 0,cs,ds,h1,h2,_=>by rw [List.eq_nil_of_length_eq_zero (l:=cs) (by omega),List.eq_nil_of_length_eq_zero (l:=ds) (by omega)]
 | n+1,cs,ds,h1,h2,h=>by
  have h0:=h 0 (by omega)
  rw [Nat.zero_mul,List.drop_zero,List.drop_zero] at h0
  have hr:=split3 n (cs.drop 3) (ds.drop 3) (by rw [List.length_drop];omega) (by rw [List.length_drop];omega) fun j hj=>by
   rw [List.drop_drop,List.drop_drop]
   have:=h (j+1) (by omega)
   rw [Nat.succ_mul,Nat.add_comm (j * 3) 3] at this
   exact this
  rw [<- List.take_append_drop 3 cs,<- List.take_append_drop 3 ds,h0,hr]
theorem dec1_cells {cs:List Value} {q:RQ} (e:dec1 cs=some q):cs=q.cells:=dec1_eq e
theorem rowB.eq {n k:Nat} {cs:List Value} (h:rowB n k cs):cs=rowC (rdQ cs) n:=
 split3 n _ _ h.1 (rowC_len _ _) fun j hj=>by
  rw [rowC_at _ hj]
  exact dec1_cells (h.2 j hj).1
theorem rowB.rb {n k j:Nat} {cs:List Value} (h:rowB n k cs) (hj:j < n):RB (rdQ cs j) k:=(h.2 j hj).2
structure EqR where
 (coef:List RQ) (rhs:RQ) (line:Int)
def EqR.tl (e:EqR):List Value:=[.bool e.rhs.s,.string ⟨⟨e.rhs.n⟩⟩,.string ⟨⟨e.rhs.d⟩⟩,.int .i64 e.line]
def decEq (h:Heap):List Value -> Option EqR
 | [sl,.bool s,.string ⟨⟨n⟩⟩,.string ⟨⟨d⟩⟩,.int .i64 ln]=>match listAt 3 dec1 h sl with
  | some c=>some ⟨c,⟨s,n,d⟩,ln⟩
  | none=>none
 | _=>none
theorem decEq_eq {h:Heap} {cs:List Value} {e:EqR} (x:decEq h cs=some e):∃ sl,cs=sl :: e.tl /\ listAt 3 dec1 h sl=some e.coef:=by
 unfold decEq at x
 split at x
 ·rename_i sl s n d ln
  split at x
  ·rename_i c hc
   cases x
   exact ⟨sl,rfl,hc⟩
  ·cases x
 ·cases x
theorem decEq_of {h:Heap} {sl:Value} {e:EqR} (x:listAt 3 dec1 h sl=some e.coef):decEq h (sl :: e.tl)=some e:=by
 unfold decEq EqR.tl
 simp only [x]
theorem decEq_mono {h h':Heap} (hl:hle h h') {cs:List Value} {e:EqR} (x:decEq h cs=some e):decEq h' cs=some e:=by
 obtain ⟨sl,rfl,hs⟩:=decEq_eq x
 exact decEq_of (listAt_mono hl (fun _ _ h=>h) hs)
def decRows (h:Heap) (v:Value):Option (List EqR):=listAt 5 (decEq h) h v
theorem decRows_mono {h h':Heap} (hl:hle h h') {v:Value} {l:List EqR} (x:decRows h v=some l):decRows h' v=some l:=listAt_mono hl (fun _ _ e=>decEq_mono hl e) x
def rq0:RQ:=⟨false,[],[]⟩
def EqR.at (e:EqR) (n j:Nat):RQ:=if j < n then (e.coef[j]?).getD rq0 else e.rhs
def eqD:EqR:=⟨[],rq0,0⟩
def eqAt (l:List EqR) (i:Nat):EqR:=(l[i]?).getD eqD
theorem eqAt_some {l:List EqR} {i:Nat} (h:i < l.length):l[i]?=some (eqAt l i):=by unfold eqAt;rw [List.getElem?_eq_getElem h];rfl
theorem eqAt_mem {l:List EqR} {i:Nat} (h:i < l.length):eqAt l i ∈ l:=List.mem_of_getElem? (eqAt_some h)
def eqM (n:Nat) (l:List EqR):Mat:=fun i j=>((eqAt l i).at n j).v
end Go.Eng
end
section
set_option maxRecDepth 20000
namespace Go.Eng
open Go Go.Proofs Go.IntWalk
def decRow (h:Heap):List Value -> Option (Nat × Row)
 | [.slice (some ⟨k,0,none⟩) l c]=>match hget h k with
  | some blk=>if l <= c /\ blk.sz=3 /\ rowB l 268435456 blk.cells then some (l,rdQ blk.cells) else none
  | none=>none
 | _=>none
theorem decRow_eq {h:Heap} {cs:List Value} {r:Nat × Row} (e:decRow h cs=some r) :
  ∃ k c blk,cs=[.slice (some ⟨k,0,none⟩) r.1 c] /\ hget h k=some blk /\ r.1 <= c /\ blk.sz=3 /\ rowB r.1 268435456 blk.cells /\ r.2=rdQ blk.cells:=by
 unfold decRow at e
 split at e
 ·rename_i k l c
  split at e
  ·rename_i blk hb
   split at e
   ·rename_i hc
    cases e
    exact ⟨k,c,blk,rfl,hb,hc.1,hc.2.1,hc.2.2,rfl⟩
   ·cases e
  ·cases e
 ·cases e
theorem decRow_mono {h h':Heap} (hl:hle h h') {cs:List Value} {r:Nat × Row} (e:decRow h cs=some r):decRow h' cs=some r:=by
 obtain ⟨l,r⟩:=r
 obtain ⟨k,c,blk,rfl,hb,h1,h2,h3,e⟩:=decRow_eq e
 cases e
 unfold decRow
 simp only [hl _ _ hb]
 exact if_pos ⟨h1,h2,h3⟩
theorem decRow_of {h:Heap} {k c N:Nat} {blk:Blk} (hb:hget h k=some blk) (h1:N <= c) (h2:blk.sz=3) (h3:rowB N 268435456 blk.cells):decRow h [.slice (some ⟨k,0,none⟩) N c]=some (N,rdQ blk.cells):=by
 unfold decRow
 simp only [hb]
 exact if_pos ⟨h1,h2,h3⟩
theorem cell1_of {cs:List Value} {o:Nat} {v:Value} (h:(cs.drop o).take 1=[v]):cs[o]?=some v:=by
 have:((cs.drop o).take 1)[0]?=some v:=by rw [h];rfl
 rw [List.getElem?_take_of_lt (by omega),List.getElem?_drop] at this
 exact this
def rwAt (l:List (Nat × Row)) (i:Nat):Nat × Row:=(l[i]?).getD (0,fun _=>0)
theorem rwAt_some {l:List (Nat × Row)} {i:Nat} (h:i < l.length):l[i]?=some (rwAt l i):=by unfold rwAt;rw [List.getElem?_eq_getElem h];rfl
theorem rwAt_mem {l:List (Nat × Row)} {i:Nat} (h:i < l.length):rwAt l i ∈ l:=List.mem_of_getElem? (rwAt_some h)
theorem hdr_at {h:Heap} {a:Option Addr} {c:Nat} {l:List (Nat × Row)} {i:Nat} (e:listAt 1 (decRow h) h (.slice a l.length c)=some l) (hi:i < l.length) :
  ∃ k off blk k' c' blk',a=some ⟨k,off,none⟩ /\ hget h k=some blk /\ off+i * 1+1 <= blk.cells.length /\ blk.cells[off+i]?=some (.slice (some ⟨k',0,none⟩) (rwAt l i).1 c') /\ hget h k'=some blk' /\ rowB (rwAt l i).1 268435456 blk'.cells /\ (rwAt l i).2=rdQ blk'.cells:=by
 obtain ⟨k,off,blk,ea,hb,_,_,hat⟩:=listAt_get e (by omega)
 obtain ⟨h1,h2⟩:=hat i _ (rwAt_some hi)
 obtain ⟨k',c',blk',e1,hb',_,_,h3,h4⟩:=decRow_eq h2
 have:=cell1_of e1
 rw [Nat.mul_one] at this
 exact ⟨k,off,blk,k',c',blk',ea,hb,h1,this,hb',h3,h4⟩
def fidx {α:Type} (p:α -> Bool):List α -> Nat -> Int
 | [],_=>-1
 | x :: r,i=>if p x then (i:Int) else fidx p r (i+1)
def spCol (f:Nat) (cs:List Value) (h:Heap):Option Nat:=
 if f=62 then (match cs with
  | [.pointer (some ⟨k,0,none⟩)]=>match hget h k with
   | some ⟨_,_,_,[.int .i64 z]⟩=>if 0 <= z then some z.toNat else none
   | _=>none
  | _=>none)
 else if f=71 then (match cs with
  | [.pointer (some ⟨k,0,none⟩)]=>match hget h k with
   | some ⟨_,_,_,[.int .i64 z,_,_]⟩=>if 0 <= z then some z.toNat else none
   | _=>none
  | _=>none)
 else none
theorem spCol_mono {f:Nat} {cs:List Value} {h h':Heap} (hl:hle h h') {k:Nat} (e:spCol f cs h=some k):spCol f cs h'=some k:=by
 unfold spCol at e ⊢
 split at e
 ·rename_i hf
  rw [if_pos hf]
  split at e
  ·split at e
   ·rename_i z hb;simp only [hl _ _ hb];exact e
   ·cases e
  ·cases e
 ·rename_i hf
  rw [if_neg hf]
  split at e
  ·rename_i hf
   rw [if_pos hf]
   split at e
   ·split at e
    ·rename_i z a b hb;simp only [hl _ _ hb];exact e
    ·cases e
   ·cases e
  ·cases e
def spNz (f:Nat):List Value -> Heap -> Option Value
 | .slice (some ⟨k,0,none⟩) l c :: cs,h=>match hget h k,spCol f cs h with
  | some blk,some j=>if rowB l 268435456 blk.cells /\ j < l /\ l <= 1000000 then some (.bool (decide (rdQ blk.cells j ≠ 0))) else none
  | _,_=>none
 | _,_=>none
theorem spNz_mono {f:Nat} {args:List Value} {h h':Heap} {v:Value} (hl:hle h h') (e:spNz f args h=some v):spNz f args h'=some v:=by
 unfold spNz at e ⊢
 split at e
 ·split at e
  ·rename_i blk j hb hc
   simp only [hl _ _ hb,spCol_mono hl hc];exact e
  ·cases e
 ·cases e
theorem spNz_of {f:Nat} {k l c j:Nat} {cs:List Value} {h:Heap} {blk:Blk} (hb:hget h k=some blk) (hc:spCol f cs h=some j) (hr:rowB l 268435456 blk.cells) (hj:j < l) (hn:l <= 1000000):spNz f (.slice (some ⟨k,0,none⟩) l c :: cs) h=some (.bool (decide (rdQ blk.cells j ≠ 0))):=by
 unfold spNz
 simp only [hb,hc]
 exact if_pos ⟨hr,hj,hn⟩
theorem row_get {n k j:Nat} {cs:List Value} (h:rowB n k cs) (hj:j < n):j * 3+3 <= cs.length /\ (cs.drop (j * 3)).take 3=rE (rdQ cs j):=by
 refine ⟨by have:=h.1;omega,?_⟩
 exact dec1_cells (h.2 j hj).1
theorem qSign_rE {x:Rat} {k:Nat} (h:RB x k) (hk:k <= 17179869184):spQSign [.agg ⟨rE x⟩]=some (.int .i64 x.num.sign):=by
 unfold spQSign rE
 simp only [sv_can]
 exact if_pos ⟨h.num hk,h.den hk⟩
theorem num_zero (x:Rat):x.num.sign=0 ↔ x=0:=by
 rw [Int.sign_eq_zero_iff_zero]
 exact Rat.num_eq_zero
theorem rE_l3' (x:Rat):(rE x).length=3:=rfl
theorem rE_o3' (x:Rat):(rE x).all okCell=true:=rfl
def c62:ICode:=
 (.seq (.reg [qq 3 (.mv (.c (.bool false)))]) (.seq (.reg [qq 4 (.mv (.t 0)),qq 5 (.load false 1 (.t 1)),qq 6 (.ixsl 3 (.t 4) (.t 5)),qq 7 (.load true 3 (.t 6)),qq 8 (.call 63 [(.t 7)]),qq 9 (.bin .neq (.t 8) (ci 0)),qq 3 (.mv (.t 9))]) .ret))
theorem tr62:trFun Tryz.prog 62=some ⟨10,[.t 3],c62⟩:=by kernel_rfl
theorem ok_lin1:SpecOK Tryz.prog 62 (rdS (spNz 62)):=by
 refine rd_run (env_cons ok_qSign (env_nil _)) mixed tr62 (fun _ _ _ _=>spNz_mono) ?_
 intro args v h N hG hN
 unfold spNz at hG
 split at hG
 case h_2=>cases hG
 rename_i kr l c cs
 split at hG
 case h_2=>cases hG
 rename_i blk j hb hc
 split at hG
 case isFalse=>cases hG
 rename_i hs
 obtain ⟨hr,hj,hn⟩:=hs
 cases hG
 unfold spCol at hc
 rw [if_pos rfl] at hc
 split at hc
 case h_2=>cases hc
 rename_i kc
 split at hc
 case h_2=>cases hc
 rename_i ec zc xc z hbc
 split at hc
 case isFalse=>cases hc
 rename_i hz
 cases hc
 obtain ⟨j,rfl⟩:=Int.eq_ofNat_of_zero_le hz
 rw [Int.toNat_natCast] at hj ⊢
 have nk:=hN _ _ hbc
 have nr:=hN _ _ hb
 refine ⟨by rfl,by simp,?_⟩
 obtain ⟨q1,q2⟩:=row_get hr hj
 have sg:=qSign_rE (hr.rb hj) (by omega)
 have hj':((j:Int) < (l:Int))=True:=eq_true (by omega)
 have Nk:∀ j,(N+j=kc)=False:=fun j=>eq_false (by omega)
 have Nr:∀ j,(N+j=kr)=False:=fun j=>eq_false (by omega)
 by_cases z:rdQ blk.cells j=0
 ·have z':=(num_zero _).2 z
  rw [show decide (rdQ blk.cells j ≠ 0)=false from decide_eq_false (fun e=>e z)]
  rw [z'] at sg
  generalize rdQ blk.cells j=x at *
  simp only [c62,G0,Nat.reduceAdd]
  simp only [↓R0,R1,simprocAttr,-Int.reduceAbs,Nk,Nr,hb,hbc,q1,q2,rE_l3',rE_o3',hj,hj',sg,Bool.not_true,Bool.not_false,Fin,isEnd,resL,res1]
  exact ⟨_,rfl,rfl,fun k hk=>by simp only [ne_nb hk,if_false]⟩
 ·have z':((rdQ blk.cells j).num.sign=0)=False:=eq_false fun e=>z ((num_zero _).1 e)
  rw [show decide (rdQ blk.cells j ≠ 0)=true from decide_eq_true z]
  generalize rdQ blk.cells j=x at *
  simp only [c62,G0,Nat.reduceAdd]
  simp only [↓R0,R1,simprocAttr,-Int.reduceAbs,Nk,Nr,hb,hbc,q1,q2,rE_l3',rE_o3',hj,hj',sg,z',Bool.not_true,Bool.not_false,Fin,isEnd,resL,res1]
  exact ⟨_,rfl,rfl,fun k hk=>by simp only [ne_nb hk,if_false]⟩
def c71:ICode:=
 (.seq (.reg [qq 3 (.mv (.c (.bool false)))]) (.seq (.reg [qq 4 (.mv (.t 0)),qq 5 (.faddr 0 (.t 1)),qq 6 (.load false 1 (.t 5)),qq 7 (.ixsl 3 (.t 4) (.t 6)),qq 8 (.load true 3 (.t 7)),qq 9 (.call 63 [(.t 8)]),qq 10 (.bin .neq (.t 9) (ci 0)),qq 3 (.mv (.t 10))]) .ret))
theorem tr71:trFun Tryz.prog 71=some ⟨11,[.t 3],c71⟩:=by kernel_rfl
theorem ok_clash1:SpecOK Tryz.prog 71 (rdS (spNz 71)):=by
 refine rd_run (env_cons ok_qSign (env_nil _)) mixed tr71 (fun _ _ _ _=>spNz_mono) ?_
 intro args v h N hG hN
 unfold spNz at hG
 split at hG
 case h_2=>cases hG
 rename_i kr l c cs
 split at hG
 case h_2=>cases hG
 rename_i blk j hb hc
 split at hG
 case isFalse=>cases hG
 rename_i hs
 obtain ⟨hr,hj,hn⟩:=hs
 cases hG
 unfold spCol at hc
 rw [if_neg (by decide),if_pos rfl] at hc
 split at hc
 case h_2=>cases hc
 rename_i kc
 split at hc
 case h_2=>cases hc
 rename_i ec zc xc z v1 v2 hbc
 split at hc
 case isFalse=>cases hc
 rename_i hz
 cases hc
 obtain ⟨j,rfl⟩:=Int.eq_ofNat_of_zero_le hz
 rw [Int.toNat_natCast] at hj ⊢
 have nk:=hN _ _ hbc
 have nr:=hN _ _ hb
 refine ⟨by rfl,by simp,?_⟩
 obtain ⟨q1,q2⟩:=row_get hr hj
 have sg:=qSign_rE (hr.rb hj) (by omega)
 have hj':((j:Int) < (l:Int))=True:=eq_true (by omega)
 have Nk:∀ j,(N+j=kc)=False:=fun j=>eq_false (by omega)
 have Nr:∀ j,(N+j=kr)=False:=fun j=>eq_false (by omega)
 by_cases z:rdQ blk.cells j=0
 ·have z':=(num_zero _).2 z
  rw [show decide (rdQ blk.cells j ≠ 0)=false from decide_eq_false (fun e=>e z)]
  rw [z'] at sg
  generalize rdQ blk.cells j=x at *
  simp only [c71,G0,Nat.reduceAdd]
  simp only [↓R0,R1,simprocAttr,-Int.reduceAbs,Nk,Nr,hb,hbc,q1,q2,rE_l3',rE_o3',hj,hj',sg,Bool.not_true,Bool.not_false,Fin,isEnd,resL,res1]
  exact ⟨_,rfl,rfl,fun k hk=>by simp only [ne_nb hk,if_false]⟩
 ·have z':((rdQ blk.cells j).num.sign=0)=False:=eq_false fun e=>z ((num_zero _).1 e)
  rw [show decide (rdQ blk.cells j ≠ 0)=true from decide_eq_true z]
  generalize rdQ blk.cells j=x at *
  simp only [c71,G0,Nat.reduceAdd]
  simp only [↓R0,R1,simprocAttr,-Int.reduceAbs,Nk,Nr,hb,hbc,q1,q2,rE_l3',rE_o3',hj,hj',sg,z',Bool.not_true,Bool.not_false,Fin,isEnd,resL,res1]
  exact ⟨_,rfl,rfl,fun k hk=>by simp only [ne_nb hk,if_false]⟩
theorem fidx_drop {α:Type} (p:α -> Bool):∀ (l:List α) (i s:Nat),(∀ j x,j < i -> l[j]?=some x -> p x=false) -> i <= l.length -> fidx p l s=fidx p (l.drop i) (s+i)
 | l,0,s,_,_=>rfl
 | [],i+1,s,_,h=>absurd h (by simp)
 | x :: l,i+1,s,h,hl=>by
  have hx:=h 0 x (by omega) rfl
  rw [fidx,hx]
  show fidx p l (s+1)=_
  rw [fidx_drop p l i (s+1) (fun j y hj hy=>h (j+1) y (by omega) hy) (by simpa using hl),List.drop_succ_cons,Nat.add_assoc,Nat.add_comm 1 i]
theorem fidx_hit {α:Type} {p:α -> Bool} {l:List α} {i:Nat} {x:α} (h:∀ j y,j < i -> l[j]?=some y -> p y=false) (hx:l[i]?=some x) (hp:p x=true):fidx p l 0=(i:Int):=by
 have hi:=(List.getElem?_eq_some_iff.1 hx).1
 rw [fidx_drop p l i 0 h (by omega),List.drop_eq_getElem_cons hi,(List.getElem?_eq_some_iff.1 hx).2,fidx,hp,Nat.zero_add];rfl
theorem fidx_miss {α:Type} {p:α -> Bool} {l:List α} (h:∀ j y,j < l.length -> l[j]?=some y -> p y=false):fidx p l 0=-1:=by
 rw [fidx_drop p l l.length 0 h (Nat.le_refl _),List.drop_length];rfl
def spIdxR:List Value -> Heap -> Option Value
 | [.slice a n c,.func (.func f) ⟨[]⟩ ⟨cs⟩],h=>match listAt 1 (decRow h) h (.slice a n c),spCol f cs h with
  | some l,some j=>if (∀ p ∈ l,j < p.1 /\ p.1 <= 1000000) /\ n <= 1000000 then some (.int .i64 (fidx (fun p=>decide (p.2 j ≠ 0)) l 0)) else none
  | _,_=>none
 | _,_=>none
theorem spIdxR_mono {args:List Value} {h h':Heap} {v:Value} (hl:hle h h') (e:spIdxR args h=some v):spIdxR args h'=some v:=by
 unfold spIdxR at e ⊢
 split at e
 ·split at e
  ·rename_i l j hb hc
   simp only [listAt_mono hl (fun _ _ e=>decRow_mono hl e) hb,spCol_mono hl hc];exact e
  ·cases e
 ·cases e
theorem spIdxR_of {h:Heap} {a:Option Addr} {c f j:Nat} {cs:List Value} {l:List (Nat × Row)} {n:Nat} (e:listAt 1 (decRow h) h (.slice a n c)=some l) (hc:spCol f cs h=some j) (hl:∀ p ∈ l,j < p.1 /\ p.1 <= 1000000) (hn:n <= 1000000) :
  spIdxR [.slice a n c,.func (.func f) ⟨[]⟩ ⟨cs⟩] h=some (.int .i64 (fidx (fun p=>decide (p.2 j ≠ 0)) l 0)):=by
 unfold spIdxR
 simp only [e,hc]
 exact if_pos ⟨hl,hn⟩
def c61:ICode:=
 (.seq (.reg [qq 4 (.mv (ci 0))]) (.seq (.seq (.reg [qq 6 (.mv (.t 0)),qq 7 (.lensl (.t 6)),qq 8 (.mv (ci 0))]) (.block 0 (.loop (.seq (.reg [qq 9 (.bin .lss (.t 8) (.t 7))]) (.seq (.cond (.t 9) .skip (.exit 0)) (.seq (.block 1 (.seq (.reg [qq 10 (.mv (.t 8)),qq 5 (.mv (.t 10))]) (.seq (.reg [qq 11 (.mv (.t 1)),qq 12 (.mv (.t 0)),qq 13 (.mv (.t 5)),qq 14 (.ixsl 1 (.t 12) (.t 13)),qq 15 (.load false 1 (.t 14)),qq 16 (.callv (.t 11) [(.t 15)])]) (.cond (.t 16) (.seq (.reg [qq 17 (.mv (.t 5)),qq 4 (.mv (.t 17))]) .ret) .skip)))) (.reg [qq 18 (.bin .add (.t 8) (ci 1)),qq 8 (.mv (.t 18))]))))))) (.seq (.reg [qq 4 (.mv (ci (-1)))]) .ret)))
theorem tr61:trFun Tryz.prog 61=some ⟨19,[.t 4],c61⟩:=by kernel_rfl
set_option maxHeartbeats 4000000 in
theorem ok_idxR:SpecOK Tryz.prog 61 (rdS spIdxR):=by
 refine rd_run (env_cons ok_lin1 (env_cons ok_clash1 (env_nil _))) mixed tr61 (fun _ _ _ _=>spIdxR_mono) ?_
 intro args v h N hG hN
 unfold spIdxR at hG
 split at hG
 case h_2=>cases hG
 rename_i a n c f cs
 split at hG
 case h_2=>cases hG
 rename_i l j hx hc
 split at hG
 case isFalse=>cases hG
 rename_i hs
 obtain ⟨hs,hn⟩:=hs
 cases hG
 have hln:l.length=n:=by
  obtain ⟨a',c',e⟩:=listAt_sl hx
  cases e;rfl
 subst hln
 refine ⟨by rfl,by simp,?_⟩
 have hf:f=62 \/ f=71:=by
  unfold spCol at hc
  split at hc
  ·exact .inl (by assumption)
  ·split at hc
   ·exact .inr (by assumption)
   ·cases hc
 simp only [c61,G0,Nat.reduceAdd]
 simp only [↓R0,R1,simprocAttr,-Int.reduceAbs]
 refine lp_parts (fun n tm hp nx=>∃ (i M:Nat),n+i=l.length /\ tmget tm 0 = .slice a l.length c /\ tmget tm 1 = .func (.func f) ⟨[]⟩ ⟨cs⟩ /\ tmget tm 7 = .int .i64 l.length /\ tmget tm 8 = .int .i64 i /\ (∀ j' p,j' < i -> l[j']?=some p -> decide (p.2 j ≠ 0)=false) /\ (∀ q,q < N -> hget hp q=hget h q) /\ N <= M /\ nx=M+0) ?_ l.length
  ⟨0,N,by omega,?_,?_,?_,?_,fun j' p hj=>absurd hj (Nat.not_lt_zero _),?_,Nat.le_refl _,rfl⟩
 rotate_left
 all_goals first | (simp only [↓R0,R1,simprocAttr,-Int.reduceAbs];done) | (simp only [↓R0,R1,simprocAttr,-Int.reduceAbs];rfl) | skip
 ·exact fun q _=>rfl
 rintro n tm hp nx ⟨i,M,hni,t0,t1,t7,t8,hall,hh,hM,hnx⟩
 rw [hnx]
 clear hnx nx
 have w1:IntKind.i64.wrap ((i:Int)+1)=((i+1:Nat):Int):=by rw [i64_in _ (by omega)];omega
 by_cases c1:i < l.length
 case neg=>
  have e:i=l.length:=by omega
  subst e
  have c1':((l.length:Int) < (l.length:Int))=False:=eq_false (by omega)
  rw [fidx_miss (fun j' p hj hp=>hall j' p hj hp)]
  simp only [↓R0,R1,simprocAttr,-Int.reduceAbs,t0,t1,t7,t8,c1',Fin,isEnd,resL,res1]
  exact ⟨_,rfl,rfl,hh⟩
 have c1':((i:Int) < (l.length:Int))=True:=eq_true (by omega)
 obtain ⟨k,off,blk,k',c',blk',ea,hb,q1,q2,hb',hr,er⟩:=hdr_at hx c1
 subst ea
 have hbb:hget hp k=some blk:=by rw [hh k (hN _ _ hb)];exact hb
 have hl:hle h hp:=fun k b e=>by rw [hh k (hN _ _ e)];exact e
 have hj:=hs _ (rwAt_mem c1)
 have nz:=spNz_of (c:=c') (hl _ _ hb') (spCol_mono hl hc) hr hj.1 hj.2
 rw [<- er] at nz
 have pt:=rwAt_some c1
 generalize (rwAt l i).1=len at *
 by_cases z:(rwAt l i).2 j ≠ 0
 ·rw [decide_eq_true z] at nz
  rw [fidx_hit hall pt (decide_eq_true z)]
  rcases hf with rfl | rfl
  ·simp only [↓R0,R1,simprocAttr,-Int.reduceAbs,rdS,callF,List.append_nil,t0,t1,t7,t8,c1,c1',hbb,q1,q2,nz,Fin,isEnd,resL,res1]
   exact ⟨_,rfl,rfl,hh⟩
  ·simp only [↓R0,R1,simprocAttr,-Int.reduceAbs,rdS,callF,List.append_nil,t0,t1,t7,t8,c1,c1',hbb,q1,q2,nz,Fin,isEnd,resL,res1]
   exact ⟨_,rfl,rfl,hh⟩
 ·rw [decide_eq_false z] at nz
  have hall':∀ j' p,j' < i+1 -> l[j']?=some p -> decide (p.2 j ≠ 0)=false:=fun j' p hj hp=>by
   by_cases e:j'=i
   ·subst e;rw [pt] at hp;cases hp;exact decide_eq_false z
   ·exact hall j' p (by omega) hp
  rcases hf with rfl | rfl
  ·simp only [↓R0,R1,simprocAttr,-Int.reduceAbs,rdS,callF,List.append_nil,t0,t1,t7,t8,c1,c1',hbb,q1,q2,nz,w1]
   exact ⟨n - 1,by omega,i+1,M,by omega,rfl,hall',hh,hM,rfl⟩
  ·simp only [↓R0,R1,simprocAttr,-Int.reduceAbs,rdS,callF,List.append_nil,t0,t1,t7,t8,c1,c1',hbb,q1,q2,nz,w1]
   exact ⟨n - 1,by omega,i+1,M,by omega,rfl,hall',hh,hM,rfl⟩
def spConR (args:List Value) (h:Heap):Option Value:=match spIdxR args h with
 | some (.int .i64 z)=>some (.bool (decide (0 <= z)))
 | _=>none
def c70:ICode:=
 (.seq (.reg [qq 4 (.mv (.c (.bool false)))]) (.seq (.reg [qq 5 (.mv (.t 0)),qq 6 (.mv (.t 1)),qq 7 (.call 61 [(.t 5),(.t 6)]),qq 8 (.bin .geq (.t 7) (ci 0)),qq 4 (.mv (.t 8))]) .ret))
theorem tr70:trFun Tryz.prog 70=some ⟨9,[.t 4],c70⟩:=by kernel_rfl
theorem ok_conR:SpecOK Tryz.prog 70 (rdS spConR):=by
 refine rd_run (env_cons ok_idxR (env_nil _)) mixed tr70 ?_ ?_
 ·intro args h h' v hle e
  unfold spConR at e ⊢
  split at e
  ·rename_i z hz
   rw [spIdxR_mono hle hz];exact e
  ·cases e
 intro args v h N hG hN
 unfold spConR at hG
 split at hG
 case h_2=>cases hG
 rename_i z hz
 cases hG
 have hz':=hz
 unfold spIdxR at hz'
 split at hz'
 case h_2=>cases hz'
 rename_i a n c f cs
 clear hz'
 refine ⟨by rfl,by simp,?_⟩
 have e0:((0:Int) <= z)=((0:Int) <= z):=rfl
 simp only [c70,G0,Nat.reduceAdd]
 simp only [↓R0,R1,simprocAttr,-Int.reduceAbs,rdS,hz,ge_iff_le,Fin,isEnd,resL,res1]
 exact ⟨_,rfl,rfl,fun k hk=>by simp only [ne_nb hk,if_false]⟩
def decN:List Value -> Option Int
 | [.int .i64 z]=>some z
 | _=>none
theorem decN_eq {cs:List Value} {z:Int} (e:decN cs=some z):cs=[.int .i64 z]:=by
 unfold decN at e
 split at e
 ·cases e;rfl
 ·cases e
theorem lqDiv_rE {x y:Rat} {i j:Nat} (hx:RB x i) (hy:RB y j) (hi:i <= 8589934592) (hj:j <= 8589934592) (h0:y ≠ 0):spQDiv [.agg ⟨rE x⟩,.agg ⟨rE y⟩]=some (.tuple ⟨[.agg ⟨rE (x / y)⟩,.bool true]⟩):=by
 unfold spQDiv rE
 simp only [rv_can]
 refine (if_pos ⟨hx.num hi,hx.den hi,hy.num hj,hy.den hj⟩).trans ?_
 exact if_neg (by rw [nl_bl];intro e;exact h0 (Rat.num_eq_zero.1 (by omega)))
theorem lqSub_rE {x y:Rat} {i j:Nat} (hx:RB x i) (hy:RB y j) (hi:i <= 8589934592) (hj:j+1 <= 8589934592):spQSub [.agg ⟨rE x⟩,.agg ⟨rE y⟩]=some (.agg ⟨rE (x - y)⟩):=by
 unfold spQSub rE
 simp only [rv_can]
 exact if_pos ⟨hx.num hi,hx.den hi,hy.num (by omega),hy.den' (k:=8589934592) hj⟩
theorem lqMul_rE {x y:Rat} {i j:Nat} (hx:RB x i) (hy:RB y j) (hi:i <= 8589934592) (hj:j <= 8589934592):spQMul [.agg ⟨rE x⟩,.agg ⟨rE y⟩]=some (.agg ⟨rE (x * y)⟩):=by
 unfold spQMul rE
 simp only [rv_can]
 exact if_pos ⟨hx.num hi,hx.den hi,hy.num hj,hy.den hj⟩
theorem row1 {k:Nat} {cs:List Value} (h:rowB 1 k cs):cs=rE (rdQ cs 0):=by
 have:=h.eq
 simpa [rowC] using this
theorem rowB_rE {x:Rat} {k:Nat} (h:RB x k):rowB 1 k (rE x) /\ rdQ (rE x) 0=x:=by
 have e:rE x=rowC (fun _=>x) 1:=by simp [rowC]
 rw [e]
 exact ⟨rowB_of fun _ _=>h,rdQ_row (by omega)⟩
theorem q3z (x:Rat):setR [.bool false,.string ⟨⟨[]⟩⟩,.string ⟨⟨[]⟩⟩] 0 (rE x)=rE x:=rfl
theorem q3t (x:Rat):(rE x).take 3=rE x:=rfl
theorem q3s (x y:Rat):setR (rE x) 0 (rE y)=rE y:=rfl
def spPl2:List Value -> Heap -> Option Value
 | [.int .i64 _,.agg ⟨cx⟩,.pointer (some ⟨kf,0,none⟩)],h=>match hget h kf with
  | some bf=>if rowB 1 268435456 cx /\ rowB 1 268435456 bf.cells /\ rdQ bf.cells 0 ≠ 0 then some (.agg ⟨rE (rdQ cx 0 / rdQ bf.cells 0)⟩) else none
  | none=>none
 | _,_=>none
theorem spPl2_of {hp:Heap} {kf:Nat} {bf:Blk} {z:Int} {x:Rat} (hb:hget hp kf=some bf) (hx:RB x 268435456) (hr:rowB 1 268435456 bf.cells) (h0:rdQ bf.cells 0 ≠ 0):spPl2 [.int .i64 z,.agg ⟨rE x⟩,.pointer (some ⟨kf,0,none⟩)] hp=some (.agg ⟨rE (x / rdQ bf.cells 0)⟩):=by
 unfold spPl2
 simp only [hb]
 obtain ⟨a,b⟩:=rowB_rE hx
 rw [if_pos ⟨a,hr,h0⟩,b]
def c65:ICode:=
 (.seq (.reg [qq 4 (.box 38 3 (.t 1)),qq 5 (.alloc 38 3 [(.bool false),e0,e0])]) (.seq (.reg [qq 7 (.load true 3 (.t 4)),qq 8 (.load true 3 (.t 2)),qq 9 (.call 66 [(.t 7),(.t 8)]),qq 6 (.mv (.t 9)),qq 10 (.ext (.t 6) 0),qq 11 (.ext (.t 6) 1),qn (.store 3 (.t 4) (.t 10))]) (.seq (.reg [qq 12 (.load true 3 (.t 4)),qn (.store 3 (.t 5) (.t 12))]) .ret)))
theorem tr65:trFun Tryz.prog 65=some ⟨13,[.cell 5 true 3],c65⟩:=by kernel_rfl
theorem ok_lin2:SpecOK Tryz.prog 65 (rdS spPl2):=by
 refine rd_run (env_cons ok_qDiv (env_nil _)) mixed tr65 ?_ ?_
 ·intro args h h' v hle e
  unfold spPl2 at e ⊢
  split at e
  ·split at e
   ·rename_i b1
    simp only [hle _ _ b1];exact e
   ·cases e
  ·cases e
 intro args v h N hG hN
 unfold spPl2 at hG
 split at hG
 case h_2=>cases hG
 rename_i z cx kf
 split at hG
 case h_2=>cases hG
 rename_i bf hb
 split at hG
 case isFalse=>cases hG
 rename_i hl
 obtain ⟨hx,hr,h0⟩:=hl
 cases hG
 have nk:=hN _ _ hb
 refine ⟨by rfl,by simp,?_⟩
 have d:=lqDiv_rE (hx.rb (j:=0) (by omega)) (hr.rb (j:=0) (by omega)) (by omega) (by omega) h0
 have ex:=row1 hx
 have eb:=row1 hr
 have Nk:∀ j,(N+j=kf)=False:=fun j=>eq_false (by omega)
 generalize rdQ cx 0=x at *
 subst ex
 generalize rdQ bf.cells 0=y at *
 have lb:bf.cells.length=3:=by rw [eb];rfl
 have tb:bf.cells.take 3=rE y:=by rw [eb];rfl
 simp only [c65,G0,Nat.reduceAdd]
 simp only [↓R0,R1,simprocAttr,-Int.reduceAbs,hb,Nk,lb,tb,d,rE_l3',rE_o3',q3z,q3t,q3s,Fin,isEnd,resL,res1]
 exact ⟨_,rfl,rfl,fun k hk=>by simp only [ne_nb hk,if_false]⟩
def spPl3:List Value -> Heap -> Option Value
 | [.int .i64 z,.agg ⟨cx⟩,.pointer (some ⟨kb,0,none⟩),.pointer (some ⟨kh,0,none⟩)],h=>match hget h kb,hget h kh with
  | some bb,some ⟨_,_,_,[.slice (some ⟨kr,0,none⟩) l c]⟩=>match hget h kr with
   | some br=>if rowB 1 268435456 cx /\ rowB 1 268435456 bb.cells /\ rowB l 268435456 br.cells /\ 0 <= z /\ z < l /\ l <= 1000000 then some (.agg ⟨rE (rdQ cx 0 - rdQ bb.cells 0 * rdQ br.cells z.toNat)⟩) else none
   | none=>none
  | _,_=>none
 | _,_=>none
theorem spPl3_of {hp:Heap} {kb kh kr l c i eh sh:Nat} {xh:Bool} {bb br:Blk} {x:Rat} (h1:hget hp kb=some bb) (h2:hget hp kh=some ⟨eh,sh,xh,[.slice (some ⟨kr,0,none⟩) l c]⟩) (h3:hget hp kr=some br)
  (hx:RB x 268435456) (hb:rowB 1 268435456 bb.cells) (hr:rowB l 268435456 br.cells) (hi:i < l) (hl:l <= 1000000):spPl3 [.int .i64 i,.agg ⟨rE x⟩,.pointer (some ⟨kb,0,none⟩),.pointer (some ⟨kh,0,none⟩)] hp=some (.agg ⟨rE (x - rdQ bb.cells 0 * rdQ br.cells i)⟩):=by
 unfold spPl3
 simp only [h1,h2,h3,Int.toNat_natCast]
 obtain ⟨a,b⟩:=rowB_rE hx
 rw [if_pos ⟨a,hb,hr,by omega,by omega,hl⟩,b]
def c67:ICode:=
 (.seq (.reg [qq 5 (.box 38 3 (.t 1)),qq 6 (.alloc 38 3 [(.bool false),e0,e0])]) (.seq (.dreg [qu 7 (.load true 3 (.t 5)),qu 8 (.load true 3 (.t 2)),qu 9 (.load false 1 (.t 3)),qu 10 (.mv (.t 0)),qu 11 (.ixsl 3 (.t 9) (.t 10)),qu 12 (.load true 3 (.t 11)),qu 13 (.call 69 [(.t 8),(.t 12)]),qu 14 (.call 68 [(.t 7),(.t 13)]),qm (.store 3 (.t 6) (.t 14))]) .ret))
theorem tr67:trFun Tryz.prog 67=some ⟨15,[.cell 6 true 3],c67⟩:=by kernel_rfl
theorem ok_lin3:SpecOK Tryz.prog 67 (rdS spPl3):=by
 refine rd_run (env_cons ok_qMul (env_cons ok_qSub (env_nil _))) mixed tr67 ?_ ?_
 ·intro args h h' v hle e
  unfold spPl3 at e ⊢
  split at e
  ·split at e
   ·rename_i b1 b2
    split at e
    ·rename_i b3
     simp only [hle _ _ b1,hle _ _ b2,hle _ _ b3];exact e
    ·cases e
   ·cases e
  ·cases e
 intro args v h N hG hN
 unfold spPl3 at hG
 split at hG
 case h_2=>cases hG
 rename_i z cx kb kh
 split at hG
 case h_2=>cases hG
 rename_i bb eh sh xh kr l c hb1 hb2
 split at hG
 case h_2=>cases hG
 rename_i br hb3
 split at hG
 case isFalse=>cases hG
 rename_i hl
 obtain ⟨hx,hb,hr,z0,zl,hl⟩:=hl
 cases hG
 obtain ⟨i,rfl⟩:=Int.eq_ofNat_of_zero_le z0
 rw [Int.toNat_natCast]
 have hi:i < l:=by omega
 have n1:=hN _ _ hb1
 have n2:=hN _ _ hb2
 have n3:=hN _ _ hb3
 refine ⟨by rfl,by simp,?_⟩
 have rb:=hb.rb (j:=0) (by omega)
 have rr:=hr.rb hi
 have m:=lqMul_rE rb rr (by omega) (by omega)
 have s:=lqSub_rE (hx.rb (j:=0) (by omega)) (rb.mul rr (k:=536870912) (by omega)) (by omega) (by omega)
 obtain ⟨q1,q2⟩:=row_get hr hi
 have ex:=row1 hx
 have eb:=row1 hb
 have N1:∀ j,(N+j=kb)=False:=fun j=>eq_false (by omega)
 have N2:∀ j,(N+j=kh)=False:=fun j=>eq_false (by omega)
 have N3:∀ j,(N+j=kr)=False:=fun j=>eq_false (by omega)
 have hi':((i:Int) < (l:Int))=True:=eq_true (by omega)
 generalize rdQ cx 0=x at *
 subst ex
 generalize rdQ bb.cells 0=y at *
 generalize rdQ br.cells i=w at *
 have lb:bb.cells.length=3:=by rw [eb];rfl
 have tb:bb.cells.take 3=rE y:=by rw [eb];rfl
 simp only [c67,G0,Nat.reduceAdd]
 simp only [↓R0,R1,simprocAttr,-Int.reduceAbs,hb1,hb2,hb3,N1,N2,N3,hi,hi',q1,q2,lb,tb,m,s,rE_l3',rE_o3',q3z,q3t,q3s,Fin,isEnd,resL,res1]
 exact ⟨_,rfl,rfl,fun k hk=>by simp only [ne_nb hk,if_false]⟩
def spEach:List Value -> Heap -> Option (Value × Nat × Blk)
 | [.slice (some ⟨k,0,none⟩) n c,.func (.func f) ⟨[]⟩ ⟨cs⟩],h=>match hget h k with
  | some blk=>
   if rowB n 268435456 blk.cells /\ n <= 1000000 /\ blk.sz=3 then
    if f=65 then (match cs with
     | [.pointer (some ⟨kf,0,none⟩)]=>match hget h kf with
      | some bf=>if rowB 1 268435456 bf.cells /\ rdQ bf.cells 0 ≠ 0 /\ kf ≠ k then some (.tuple ⟨[]⟩,k,{ blk with cells:=rowC (fun j=>rdQ blk.cells j / rdQ bf.cells 0) n }) else none
      | none=>none
     | _=>none)
    else if f=67 then (match cs with
     | [.pointer (some ⟨kb,0,none⟩),.pointer (some ⟨kh,0,none⟩)]=>match hget h kb,hget h kh with
      | some bb,some ⟨_,_,_,[.slice (some ⟨kr,0,none⟩) l _]⟩=>match hget h kr with
       | some br=>if rowB 1 268435456 bb.cells /\ rowB l 268435456 br.cells /\ n <= l /\ l <= 1000000 /\ kb ≠ k /\ kh ≠ k /\ kr ≠ k then some (.tuple ⟨[]⟩,k,{ blk with cells:=rowC (fun j=>rdQ blk.cells j - rdQ bb.cells 0 * rdQ br.cells j) n }) else none
       | none=>none
      | _,_=>none
     | _=>none)
    else none
   else none
  | none=>none
 | _,_=>none
theorem spEach_mono {args:List Value} {h h':Heap} {v:Value × Nat × Blk} (hl:hle h h') (e:spEach args h=some v):spEach args h'=some v:=by
 unfold spEach at e ⊢
 split at e
 ·split at e
  ·rename_i blk hb
   simp only [hl _ _ hb]
   split at e
   ·rename_i hc
    rw [if_pos hc]
    split at e
    ·rename_i hf
     rw [if_pos hf]
     split at e
     ·split at e
      ·rename_i b1;simp only [hl _ _ b1];exact e
      ·cases e
     ·cases e
    ·rename_i hf
     rw [if_neg hf]
     split at e
     ·rename_i hf
      rw [if_pos hf]
      split at e
      ·split at e
       ·rename_i b1 b2
        split at e
        ·rename_i b3;simp only [hl _ _ b1,hl _ _ b2,hl _ _ b3];exact e
        ·cases e
       ·cases e
      ·cases e
     ·cases e
   ·cases e
  ·cases e
 ·cases e
def mixR (f g:Row) (i:Nat):Row:=fun q=>if q < i then g q else f q
theorem mixR_at (f g:Row) (i:Nat):mixR f g i i=f i:=if_neg (by omega)
theorem mixR_set (f g:Row) (i n:Nat) (h:i < n):setR (rowC (mixR f g i) n) (i * 3) (rE (g i))=rowC (mixR f g (i+1)) n:=by
 rw [rowC_set _ _ h]
 refine rowC_congr fun q _=>?_
 unfold mixR
 by_cases e:q=i
 ·rw [if_pos e,e,if_pos (by omega)]
 ·rw [if_neg e]
  by_cases c:q < i
  ·rw [if_pos c,if_pos (by omega)]
  ·rw [if_neg c,if_neg (by omega)]
def c64:ICode:=
 (.seq (.reg [qq 6 (.mv (.t 0)),qq 7 (.lensl (.t 6)),qq 8 (.mv (ci 0))]) (.block 0 (.loop (.seq (.reg [qq 9 (.bin .lss (.t 8) (.t 7))]) (.seq (.cond (.t 9) .skip (.exit 0)) (.seq (.block 1 (.seq (.reg [qq 10 (.mv (.t 8)),qq 11 (.ixsl 3 (.t 6) (.t 8)),qq 12 (.load true 3 (.t 11)),qq 5 (.alloc 38 3 [(.bool false),e0,e0]),qq 4 (.mv (.t 10)),qn (.store 3 (.t 5) (.t 12))]) (.reg [qq 13 (.mv (.t 0)),qq 14 (.mv (.t 4)),qq 15 (.mv (.t 1)),qq 16 (.mv (.t 4)),qq 17 (.load true 3 (.t 5)),qq 18 (.callv (.t 15) [(.t 16),(.t 17)]),qq 19 (.ixsl 3 (.t 13) (.t 14)),qn (.store 3 (.t 19) (.t 18))]))) (.reg [qq 20 (.bin .add (.t 8) (ci 1)),qq 8 (.mv (.t 20))])))))))
theorem tr64:trFun Tryz.prog 64=some ⟨21,[],c64⟩:=by kernel_rfl
set_option maxHeartbeats 8000000 in
theorem ok_each:SpecOK Tryz.prog 64 (upS spEach):=by
 refine up_run (env_cons ok_lin2 (env_cons ok_lin3 (env_nil _))) mixed tr64 (fun _ _ _ _=>spEach_mono) ?_
 intro args v k b h N hG hN
 unfold spEach at hG
 split at hG
 case h_2=>cases hG
 rename_i k0 n c f cs
 split at hG
 case h_2=>cases hG
 rename_i blk hb
 split at hG
 case isFalse=>cases hG
 rename_i hs
 obtain ⟨hr,hn,hsz⟩:=hs
 have nk:=hN _ _ hb
 have e0:=hr.eq
 have hsz':(blk.sz=0)=False:=eq_false (by omega)
 obtain ⟨be,bs,bx,bc⟩:=blk
 simp only at hsz hr e0 hG
 subst hsz
 split at hG
 ·rename_i hf
  subst hf
  split at hG
  case h_2=>cases hG
  rename_i kf
  split at hG
  case h_2=>cases hG
  rename_i bf hbf
  split at hG
  case isFalse=>cases hG
  rename_i hc
  obtain ⟨hc1,hc2,hc3⟩:=hc
  cases hG
  have cl:∀ {hp:Heap} {i:Nat},hget hp kf=some bf -> i < n -> spPl2 [.int .i64 i,.agg ⟨rE (rdQ bc i)⟩,.pointer (some ⟨kf,0,none⟩)] hp=some (.agg ⟨rE (rdQ bc i / rdQ bf.cells 0)⟩):=fun hb hi=>spPl2_of hb (hr.rb hi) hc1 hc2
  obtain ⟨g,eg⟩:∃ g:Row,g=fun j=>rdQ bc j / rdQ bf.cells 0:=⟨_,rfl⟩
  have cl':∀ {hp:Heap} {i:Nat},hget hp kf=some bf -> i < n -> spPl2 [.int .i64 i,.agg ⟨rE (rdQ bc i)⟩,.pointer (some ⟨kf,0,none⟩)] hp=some (.agg ⟨rE (g i)⟩):=by rw [eg];exact cl
  have n_kf:=hN _ _ hbf
  refine ⟨nk,rowC_base _ _,by rfl,by simp,?_⟩
  rw [<- eg]
  clear eg cl
  obtain ⟨f,ef⟩:∃ f:Row,f=rdQ bc:=⟨_,rfl⟩
  rw [<- ef] at e0 cl'
  have fr:∀ i,i < n -> RB (f i) 268435456:=fun i hi=>by rw [ef];exact hr.rb hi
  clear ef hr
  subst e0
  simp only [c64,G0,Nat.reduceAdd]
  simp only [↓R0,R1,simprocAttr,-Int.reduceAbs]
  refine lp_parts (fun m tm hp nx=>∃ (i M:Nat),m+i=n /\ tmget tm 0 = .slice (some ⟨k,0,none⟩) n c /\ tmget tm 1 = .func (.func 65) ⟨[]⟩ ⟨[.pointer (some ⟨kf,0,none⟩)]⟩ /\ tmget tm 6 = .slice (some ⟨k,0,none⟩) n c /\ tmget tm 7 = .int .i64 n /\ tmget tm 8 = .int .i64 i /\ hget hp k=some ⟨be,3,bx,rowC (mixR f g i) n⟩ /\ (∀ q,q < N -> q ≠ k -> hget hp q=hget h q) /\ N <= M /\ nx=M+0) ?_ n
   ⟨0,N,by omega,?_,?_,?_,?_,?_,?_,?_,Nat.le_refl _,rfl⟩
  rotate_left
  all_goals first | (simp only [↓R0,R1,simprocAttr,-Int.reduceAbs];done) | (simp only [↓R0,R1,simprocAttr,-Int.reduceAbs];rfl) | skip
  ·rw [hb,show rowC (mixR f g 0) n=rowC f n from rowC_congr fun q _=>if_neg (by omega)]
  ·exact fun q _ _=>rfl
  rintro m tm hp nx ⟨i,M,hmi,t0,t1,t6,t7,t8,hbk,hh,hM,hnx⟩
  rw [hnx]
  clear hnx nx
  have w1:IntKind.i64.wrap ((i:Int)+1)=((i+1:Nat):Int):=by rw [i64_in _ (by omega)];omega
  by_cases c1:i < n
  case neg=>
   have e:i=n:=by omega
   subst e
   have c1':((i:Int) < (i:Int))=False:=eq_false (by omega)
   simp only [↓R0,R1,simprocAttr,-Int.reduceAbs,t0,t1,t6,t7,t8,c1',FinU,isEnd,resL,res1]
   refine ⟨_,rfl,rfl,?_,hh⟩
   rw [hbk,show rowC (mixR f g i) i=rowC g i from rowC_congr fun q hq=>if_pos hq]
  have c1':((i:Int) < (n:Int))=True:=eq_true (by omega)
  have nk':∀ j,(M+j=k)=False:=fun j=>eq_false (by omega)
  have kn':∀ j,(k=M+j)=False:=fun j=>eq_false (by omega)
  have hbf':hget hp kf=some bf:=by rw [hh kf n_kf hc3];exact hbf
  have M_kf:∀ j,(M+j=kf)=False:=fun j=>eq_false (by omega)
  have ln:=rowC_len (mixR f g i) n
  have gt:=rowC_at (mixR f g i) c1
  rw [mixR_at] at gt
  have st:=mixR_set f g i n c1
  have i3:i * 3+3 <= n * 3:=by omega
  have f3:=fr i c1
  generalize rowC (mixR f g i) n=CI at *
  generalize eCJ:rowC (mixR f g (i+1)) n=CJ at *
  have nk2:=fun j=>nk' j
  simp only [↓R0,R1,simprocAttr,-Int.reduceAbs,rdS,callF,List.append_nil,t0,t1,t6,t7,t8,c1,c1',hbk,nk',kn',ln,i3,gt,st,hbf',M_kf,cl',rE_l3',rE_o3',q3z,q3t,q3s,w1]
  refine ⟨m - 1,by omega,i+1,M+1,by omega,rfl,by rw [eCJ],fun q hq hqk=>?_,by omega,rfl⟩
  have nb:∀ j,(M+j=q)=False:=fun j=>eq_false (by omega)
  have nq:(k=q)=False:=eq_false (fun e=>hqk e.symm)
  simp only [↓R0,R1,simprocAttr,-Int.reduceAbs,nb,nq]
  exact hh q hq hqk
 ·split at hG
  case isFalse=>cases hG
  rename_i hf
  subst hf
  split at hG
  case h_2=>cases hG
  rename_i kb kh
  split at hG
  case h_2=>cases hG
  rename_i bb eh sh xh kr l' c' hb1 hb2
  split at hG
  case h_2=>cases hG
  rename_i br hb3
  split at hG
  case isFalse=>cases hG
  rename_i hc
  obtain ⟨hc1,hc2,hc3,hc4,hc5,hc6,hc7⟩:=hc
  cases hG
  have cl':∀ {hp:Heap} {i:Nat},hget hp kb=some bb -> hget hp kh=some ⟨eh,sh,xh,[.slice (some ⟨kr,0,none⟩) l' c']⟩ -> hget hp kr=some br -> i < n -> spPl3 [.int .i64 i,.agg ⟨rE (rdQ bc i)⟩,.pointer (some ⟨kb,0,none⟩),.pointer (some ⟨kh,0,none⟩)] hp=some (.agg ⟨rE (rdQ bc i - rdQ bb.cells 0 * rdQ br.cells i)⟩):=fun h1 h2 h3 hi=>spPl3_of h1 h2 h3 (hr.rb hi) hc1 hc2 (by omega) hc4
  obtain ⟨g,eg⟩:∃ g:Row,g=fun j=>rdQ bc j - rdQ bb.cells 0 * rdQ br.cells j:=⟨_,rfl⟩
  have cl:∀ {hp:Heap} {i:Nat},hget hp kb=some bb -> hget hp kh=some ⟨eh,sh,xh,[.slice (some ⟨kr,0,none⟩) l' c']⟩ -> hget hp kr=some br -> i < n -> spPl3 [.int .i64 i,.agg ⟨rE (rdQ bc i)⟩,.pointer (some ⟨kb,0,none⟩),.pointer (some ⟨kh,0,none⟩)] hp=some (.agg ⟨rE (g i)⟩):=by rw [eg];exact cl'
  have n_kb:=hN _ _ hb1
  have n_kh:=hN _ _ hb2
  have n_kr:=hN _ _ hb3
  refine ⟨nk,rowC_base _ _,by rfl,by simp,?_⟩
  rw [<- eg]
  clear eg cl'
  obtain ⟨f,ef⟩:∃ f:Row,f=rdQ bc:=⟨_,rfl⟩
  rw [<- ef] at e0 cl
  have fr:∀ i,i < n -> RB (f i) 268435456:=fun i hi=>by rw [ef];exact hr.rb hi
  clear ef hr
  subst e0
  simp only [c64,G0,Nat.reduceAdd]
  simp only [↓R0,R1,simprocAttr,-Int.reduceAbs]
  refine lp_parts (fun m tm hp nx=>∃ (i M:Nat),m+i=n /\ tmget tm 0 = .slice (some ⟨k,0,none⟩) n c /\ tmget tm 1 = .func (.func 67) ⟨[]⟩ ⟨[.pointer (some ⟨kb,0,none⟩),.pointer (some ⟨kh,0,none⟩)]⟩ /\ tmget tm 6 = .slice (some ⟨k,0,none⟩) n c /\ tmget tm 7 = .int .i64 n /\ tmget tm 8 = .int .i64 i /\ hget hp k=some ⟨be,3,bx,rowC (mixR f g i) n⟩ /\ (∀ q,q < N -> q ≠ k -> hget hp q=hget h q) /\ N <= M /\ nx=M+0) ?_ n
   ⟨0,N,by omega,?_,?_,?_,?_,?_,?_,?_,Nat.le_refl _,rfl⟩
  rotate_left
  all_goals first | (simp only [↓R0,R1,simprocAttr,-Int.reduceAbs];done) | (simp only [↓R0,R1,simprocAttr,-Int.reduceAbs];rfl) | skip
  ·rw [hb,show rowC (mixR f g 0) n=rowC f n from rowC_congr fun q _=>if_neg (by omega)]
  ·exact fun q _ _=>rfl
  rintro m tm hp nx ⟨i,M,hmi,t0,t1,t6,t7,t8,hbk,hh,hM,hnx⟩
  rw [hnx]
  clear hnx nx
  have w1:IntKind.i64.wrap ((i:Int)+1)=((i+1:Nat):Int):=by rw [i64_in _ (by omega)];omega
  by_cases c1:i < n
  case neg=>
   have e:i=n:=by omega
   subst e
   have c1':((i:Int) < (i:Int))=False:=eq_false (by omega)
   simp only [↓R0,R1,simprocAttr,-Int.reduceAbs,t0,t1,t6,t7,t8,c1',FinU,isEnd,resL,res1]
   refine ⟨_,rfl,rfl,?_,hh⟩
   rw [hbk,show rowC (mixR f g i) i=rowC g i from rowC_congr fun q hq=>if_pos hq]
  have c1':((i:Int) < (n:Int))=True:=eq_true (by omega)
  have nk':∀ j,(M+j=k)=False:=fun j=>eq_false (by omega)
  have kn':∀ j,(k=M+j)=False:=fun j=>eq_false (by omega)
  have hb1':hget hp kb=some bb:=by rw [hh kb n_kb hc5];exact hb1
  have M_kb:∀ j,(M+j=kb)=False:=fun j=>eq_false (by omega)
  have hb2':hget hp kh=some ⟨eh,sh,xh,[.slice (some ⟨kr,0,none⟩) l' c']⟩:=by rw [hh kh n_kh hc6];exact hb2
  have M_kh:∀ j,(M+j=kh)=False:=fun j=>eq_false (by omega)
  have hb3':hget hp kr=some br:=by rw [hh kr n_kr hc7];exact hb3
  have M_kr:∀ j,(M+j=kr)=False:=fun j=>eq_false (by omega)
  have ln:=rowC_len (mixR f g i) n
  have gt:=rowC_at (mixR f g i) c1
  rw [mixR_at] at gt
  have st:=mixR_set f g i n c1
  have i3:i * 3+3 <= n * 3:=by omega
  have f3:=fr i c1
  generalize rowC (mixR f g i) n=CI at *
  generalize eCJ:rowC (mixR f g (i+1)) n=CJ at *
  have nk2:=fun j=>nk' j
  simp only [↓R0,R1,simprocAttr,-Int.reduceAbs,rdS,callF,List.append_nil,t0,t1,t6,t7,t8,c1,c1',hbk,nk',kn',ln,i3,gt,st,hb1',M_kb,hb2',M_kh,hb3',M_kr,cl,rE_l3',rE_o3',q3z,q3t,q3s,w1]
  refine ⟨m - 1,by omega,i+1,M+1,by omega,rfl,by rw [eCJ],fun q hq hqk=>?_,by omega,rfl⟩
  have nb:∀ j,(M+j=q)=False:=fun j=>eq_false (by omega)
  have nq:(k=q)=False:=eq_false (fun e=>hqk e.symm)
  simp only [↓R0,R1,simprocAttr,-Int.reduceAbs,nb,nq]
  exact hh q hq hqk
theorem rqs_len:∀ l:List RQ,(rqs l).length=l.length * 3
 | []=>rfl
 | q :: l=>by
  have:=rqs_len l
  unfold rqs at this ⊢
  rw [List.flatMap_cons,List.length_append,this,List.length_cons,Nat.succ_mul]
  show 3+_=_;omega
theorem rqs_base (l:List RQ):(rqs l).all isBase=true:=by
 rw [List.all_eq_true]
 intro v hv
 unfold rqs at hv
 rw [List.mem_flatMap] at hv
 obtain ⟨q,_,h⟩:=hv
 have:q.cells.all isBase=true:=rfl
 exact List.all_eq_true.1 this v h
theorem rqs_ok (l:List RQ):(rqs l).all okCell=true:=by
 rw [List.all_eq_true]
 intro v hv
 unfold rqs at hv
 rw [List.mem_flatMap] at hv
 obtain ⟨q,_,h⟩:=hv
 have:q.cells.all okCell=true:=rfl
 exact List.all_eq_true.1 this v h
theorem rqs_app (l:List RQ) (q:RQ):rqs l ++ q.cells=rqs (l ++ [q]):=by unfold rqs;simp
theorem rqs_one (q:RQ):q.cells=rqs [q]:=by unfold rqs;simp
theorem many_rqs:∀ {n:Nat} {cs:List Value} {l:List RQ},many 3 dec1 n cs=some l -> cs.take (n * 3)=rqs l
 | 0,cs,l,e=>by simp [many] at e;subst e;simp [rqs]
 | n+1,cs,l,e=>by
  unfold many at e
  split at e
  ·rename_i a r h1 h2
   cases e
   have ih:=many_rqs h2
   have hc:=dec1_cells h1
   rw [Nat.succ_mul,Nat.add_comm (n * 3) 3,List.take_add,hc,ih]
   unfold rqs
   rw [List.flatMap_cons]
  ·cases e
theorem list_rqs {h:Heap} {a:Option Addr} {n c:Nat} {l:List RQ} (e:listAt 3 dec1 h (.slice a n c)=some l) (hn:0 < n) :
  l.length=n /\ ∃ k off blk,a=some ⟨k,off,none⟩ /\ hget h k=some blk /\ off+n * 3 <= blk.cells.length /\ (blk.cells.drop off).take (n * 3)=rqs l:=by
 have hl:l.length=n:=by obtain ⟨a',c',x⟩:=listAt_sl e;cases x;rfl
 refine ⟨hl,?_⟩
 unfold listAt at e
 rw [Option.bind_eq_some_iff] at e
 obtain ⟨cs,e1,e2⟩:=e
 simp only [slen] at e2
 obtain ⟨k,off,blk,rfl,hb,hc,hle,rfl⟩:=lay_pos e1 hn
 refine ⟨k,off,blk,rfl,hb,hle,?_⟩
 have:=many_rqs e2
 rw [List.take_take,Nat.min_self] at this
 exact this
theorem src_of {h:Heap} {a:Addr} {n c:Nat} {l:List RQ} (e:listAt 3 dec1 h (.slice (some a) n c)=some l):srcOf h 3 n (some a)=some (rqs l):=by
 by_cases z:n=0
 ·subst z
  have hl:l=[]:=by
   obtain ⟨a',c',x⟩:=listAt_sl e
   injection x with _ x2 _
   exact List.eq_nil_of_length_eq_zero x2.symm
  subst hl
  obtain ⟨k,off,tag⟩:=a
  cases tag with
  | some t=>unfold srcOf;exact if_pos rfl
  | none=>
   unfold listAt lay at e
   cases hb:hget h k with
   | none=>simp [hb] at e
   | some blk=>
    simp only [hb] at e
    split at e
    ·rename_i hc
     unfold srcOf
     simp only [hb,Option.bind_some]
     rw [if_pos (by omega)]
     simp [rqs]
    ·simp at e
 ·obtain ⟨_,k,off,blk,ea,hb,hle,ht⟩:=list_rqs e (by omega)
  cases ea
  unfold srcOf
  simp only [hb,Option.bind_some]
  rw [if_pos hle,ht]
def spClone:List Value -> Heap -> Option NewL
 | [.slice none 0 0],_=>some ⟨0,fun _ => .slice none 0 0,fun _=>0,fun _=>0,fun _ _=>[]⟩
 | [.slice (some a) n c],h=>match listAt 3 dec1 h (.slice (some a) n c) with
  | some l=>if n <= 1000 then some ⟨1,fun σ => .slice (some ⟨σ 0,0,none⟩) n n,fun _=>38,fun _=>3,fun _ _=>rqs l⟩ else none
  | none=>none
 | _,_=>none
def c59:ICode:=
 (.seq (.reg [qq 2 (.mv (.c (.slice none 0 0)))]) (.seq (.seq (.reg [qq 3 (.mv (.t 0)),qq 4 (.nils false (.t 3) (.c (.slice none 0 0)))]) (.cond (.t 4) (.seq (.reg [qq 2 (.mv (.c (.slice none 0 0)))]) .ret) .skip)) (.seq (.reg [qq 5 (.bslice 38 3 0 [] []),qq 6 (.mv (.t 0)),qq 7 (.app 38 3 40 (.t 5) (.t 6)),qq 2 (.mv (.t 7))]) .ret)))
theorem tr59:trFun Tryz.prog 59=some ⟨8,[.t 2],c59⟩:=by kernel_rfl
set_option maxHeartbeats 2000000 in
theorem ok_cloneQ:SpecOK Tryz.prog 59 (nwL spClone):=by
 refine newL_run (env_nil _) mixed tr59 ?_ ?_
 ·intro args h h' r hle e
  unfold spClone at e ⊢
  split at e
  ·exact e
  ·split at e
   ·rename_i l hb
    simp only [listAt_mono hle (fun _ _ e=>e) hb];exact e
   ·cases e
  ·cases e
 intro args h N r hG hN
 unfold spClone at hG
 split at hG
 case h_3=>cases hG
 ·cases hG
  refine ⟨⟨fun β σ σ' _ _ => .base _ rfl,fun β σ σ' _ _ i hi=>absurd hi (Nat.not_lt_zero i)⟩,by simp,?_⟩
  simp only [c59,G0,Nat.reduceAdd]
  simp only [↓R0,R1,simprocAttr,-Int.reduceAbs,Bool.not_false,Bool.not_true,FinL,isEnd,resL,res1]
  exact ⟨fun i=>i,_,fun i hi=>absurd hi (Nat.not_lt_zero i),fun i j hi=>absurd hi (Nat.not_lt_zero i),rfl,rfl,fun i hi=>absurd hi (Nat.not_lt_zero i),fun k _=>trivial⟩
 ·rename_i a n c
  split at hG
  case h_2=>cases hG
  rename_i l hx
  split at hG
  case isFalse=>cases hG
  rename_i hn
  cases hG
  refine ⟨⟨fun β σ σ' b1 _=>VR.sl (σ 0) 0 _ _ ⟨σ' 0,0,[]⟩ (b1 0 Nat.one_pos),fun β σ σ' _ _ i hi=>VRs.of_base (rqs_base l)⟩,by simp,?_⟩
  have hln:l.length=n:=by
   obtain ⟨a',c',x⟩:=listAt_sl hx
   injection x with _ x2 _
   exact x2.symm
  have sr:∀ b:Option Blk,srcOf ((N+0,b) :: h) 3 n (some a)=some (rqs l):=fun b=>src_of (listAt_mono (fun k b' e=>by
   have:=hN _ _ e
   simp only [hget,show (N+0=k)=False from eq_false (by omega),if_false];exact e) (fun _ _ e=>e) hx)
  have ln:=rqs_len l
  have lok:=rqs_ok l
  rw [hln] at ln
  by_cases z:n=0
  ·subst z
   have hl:l=[]:=List.eq_nil_of_length_eq_zero hln
   subst hl
   simp only [c59,G0,Nat.reduceAdd]
   simp only [↓R0,R1,simprocAttr,-Int.reduceAbs,sr,Bool.not_false,Bool.not_true,FinL,isEnd,resL,res1]
   refine ⟨fun _=>N+0,_,fun i hi=>Nat.le_refl _,fun i j (hi:i < 1) (hj:j < 1) _=>by omega,rfl,rfl,fun i hi=>⟨true,?_⟩,fun k hk=>?_⟩
   ·simp only [↓R0,R1,simprocAttr,-Int.reduceAbs]
    rfl
   ·have nb:∀ q,(N+q=k)=False:=fun q=>eq_false (by omega)
    simp only [↓R0,R1,simprocAttr,-Int.reduceAbs,nb]
  ·have z':(n=0)=False:=eq_false z
   have z2:(n <= 0)=False:=eq_false (by omega)
   have b1:(n * 40 <= 140737488355328)=True:=eq_true (by omega)
   generalize rqs l=L at *
   simp only [c59,G0,Nat.reduceAdd]
   simp only [↓R0,R1,simprocAttr,-Int.reduceAbs,sr,z',z2,b1,ln,lok,Nat.zero_add,Nat.zero_mul,Bool.not_false,Bool.not_true,FinL,isEnd,resL,res1]
   refine ⟨fun _=>N+1,_,fun i hi=>Nat.le_add_right _ _,fun i j (hi:i < 1) (hj:j < 1) _=>by omega,rfl,rfl,fun i hi=>⟨false,?_⟩,fun k hk=>?_⟩
   ·simp only [↓R0,R1,simprocAttr,-Int.reduceAbs]
   ·have nb:∀ q,(N+q=k)=False:=fun q=>eq_false (by omega)
    simp only [↓R0,R1,simprocAttr,-Int.reduceAbs,nb]
def hdrC (ρ:Nat -> Nat) (w:Nat):Nat -> List Value
 | 0=>[]
 | m+1=>hdrC ρ w m ++ [.slice (some ⟨ρ m,0,none⟩) w w]
theorem hdrC_len (ρ:Nat -> Nat) (w:Nat):∀ m,(hdrC ρ w m).length=m
 | 0=>rfl
 | m+1=>by rw [hdrC,List.length_append,hdrC_len ρ w m];rfl
theorem hdrC_at (ρ:Nat -> Nat) (w:Nat):∀ {m i},i < m -> (hdrC ρ w m)[i]?=some (.slice (some ⟨ρ i,0,none⟩) w w)
 | 0,i,h=>absurd h (Nat.not_lt_zero i)
 | m+1,i,h=>by
  have hl:=hdrC_len ρ w m
  rw [hdrC]
  by_cases e:i=m
  ·subst e
   rw [List.getElem?_append_right (by omega),hl,Nat.sub_self];rfl
  ·rw [List.getElem?_append_left (by omega)]
   exact hdrC_at ρ w (by omega)
theorem hdrC_congr {ρ ρ':Nat -> Nat} {w:Nat}:∀ {m},(∀ i,i < m -> ρ i=ρ' i) -> hdrC ρ w m=hdrC ρ' w m
 | 0,_=>rfl
 | m+1,h=>by rw [hdrC,hdrC,hdrC_congr (m:=m) fun i hi=>h i (by omega),h m (by omega)]
theorem hdrC_set (ρ:Nat -> Nat) (w k:Nat) {m i:Nat} (h:i < m):setR (hdrC ρ w m) i [.slice (some ⟨k,0,none⟩) w w]=hdrC (fun q=>if q=i then k else ρ q) w m:=by
 show (hdrC ρ w m).set i _=_
 refine List.ext_getElem? fun q=>?_
 rw [List.getElem?_set]
 by_cases hq:q < m
 ·rw [hdrC_at (fun q=>if q=i then k else ρ q) w hq]
  by_cases e:i=q
  ·subst e;simp [hdrC_len,h]
  ·have e':¬ q=i:=fun x=>e x.symm
   rw [if_neg e,hdrC_at _ _ hq]
   simp [e']
 ·rw [List.getElem?_eq_none (l:=hdrC (fun q=>if q=i then k else ρ q) w m) (i:=q) (by rw [hdrC_len];omega),if_neg (by omega),List.getElem?_eq_none (by rw [hdrC_len];omega)]
structure RowsH (hp:Heap) (lo hi kr m w:Nat) (xr:Bool) (ρ:Nat -> Nat) (R:Mat) (xs:Nat -> Bool):Prop where
 hd:hget hp kr=some ⟨30,1,xr,hdrC ρ w m⟩
 row:∀ j,j < m -> hget hp (ρ j)=some ⟨38,3,xs j,rowC (R j) w⟩
 inj:∀ i j,i < m -> j < m -> ρ i=ρ j -> i=j
 ne:∀ j,j < m -> ρ j ≠ kr
 bd:∀ j,j < m -> lo <= ρ j /\ ρ j < hi
 kb:lo <= kr /\ kr < hi
theorem RowsH.mono {hp hp':Heap} {lo hi hi' kr m w:Nat} {xr:Bool} {ρ:Nat -> Nat} {R:Mat} {xs:Nat -> Bool} (H:RowsH hp lo hi kr m w xr ρ R xs) (hh:hi <= hi') (he:∀ q,lo <= q -> q < hi -> hget hp' q=hget hp q):RowsH hp' lo hi' kr m w xr ρ R xs where
 hd:=by rw [he kr H.kb.1 H.kb.2];exact H.hd
 row:=fun j hj=>by rw [he _ (H.bd j hj).1 (H.bd j hj).2];exact H.row j hj
 inj:=H.inj
 ne:=H.ne
 bd:=fun j hj=>by have:=H.bd j hj;omega
 kb:=by have:=H.kb;omega
theorem RowsH.upd {hp hp':Heap} {lo hi hi' kr m w i:Nat} {xr:Bool} {ρ:Nat -> Nat} {R R':Mat} {xs:Nat -> Bool} (H:RowsH hp lo hi kr m w xr ρ R xs) (hh:hi <= hi') (him:i < m) {x:Bool} (hrow:hget hp' (ρ i)=some ⟨38,3,x,rowC (R' i) w⟩)
  (ho:∀ q,q < m -> q ≠ i -> R' q=R q) (he:∀ q,lo <= q -> q < hi -> q ≠ ρ i -> hget hp' q=hget hp q):RowsH hp' lo hi' kr m w xr ρ R' (fun q=>if q=i then x else xs q) where
 hd:=by rw [he kr H.kb.1 H.kb.2 (fun e=>H.ne i him e.symm)];exact H.hd
 row:=fun j hj=>by
  by_cases e:j=i
  ·subst e
   show hget hp' (ρ j)=some ⟨_,_,if j=j then x else xs j,_⟩
   rw [if_pos rfl];exact hrow
  ·show hget hp' (ρ j)=some ⟨_,_,if j=i then x else xs j,_⟩
   rw [if_neg e,he _ (H.bd j hj).1 (H.bd j hj).2 (fun x=>e (H.inj j i hj him x)),ho j hj e];exact H.row j hj
 inj:=H.inj
 ne:=H.ne
 bd:=fun j hj=>by have:=H.bd j hj;omega
 kb:=by have:=H.kb;omega
theorem RowsH.congr {hp:Heap} {lo hi kr m w:Nat} {xr:Bool} {ρ:Nat -> Nat} {R R':Mat} {xs:Nat -> Bool} (H:RowsH hp lo hi kr m w xr ρ R xs) (h:∀ q,q < m -> ∀ j,j < w -> R q j=R' q j):RowsH hp lo hi kr m w xr ρ R' xs where
 hd:=H.hd
 row:=fun j hj=>by rw [H.row j hj,rowC_congr (h j hj)]
 inj:=H.inj
 ne:=H.ne
 bd:=H.bd
 kb:=H.kb
theorem eq_at {h:Heap} {a:Option Addr} {c:Nat} {l:List EqR} {i:Nat} (e:decRows h (.slice a l.length c)=some l) (hi:i < l.length) :
  ∃ k off blk a' n' c',a=some ⟨k,off,none⟩ /\ hget h k=some blk /\ off+i * 5+5 <= blk.cells.length /\ (blk.cells.drop (off+i * 5)).take 5 = .slice a' n' c' :: (eqAt l i).tl /\ n'=(eqAt l i).coef.length /\ listAt 3 dec1 h (.slice a' n' c')=some (eqAt l i).coef:=by
 unfold decRows at e
 obtain ⟨k,off,blk,ea,hb,_,_,hat⟩:=listAt_get e (by omega)
 obtain ⟨h1,h2⟩:=hat i _ (eqAt_some hi)
 obtain ⟨sl,e1,e2⟩:=decEq_eq h2
 obtain ⟨a',c',rfl⟩:=listAt_sl e2
 exact ⟨k,off,blk,a',_,c',ea,hb,h1,e1,rfl,e2⟩
theorem swap_RB {m w b i top:Nat} {M:Mat} (h:∀ q,q < m -> ∀ j,j < w -> RB (M q j) b) (hi:i < m) (ht:top < m):∀ q,q < m -> ∀ j,j < w -> RB (swapR M top i q j) b:=by
 intro q hq j hj
 unfold swapR
 split
 ·exact h i hi j hj
 ·split
  ·exact h top ht j hj
  ·exact h q hq j hj
theorem piv_RB {m w b top k:Nat} {B:Mat} (h:∀ q,q < m -> ∀ j,j < w -> RB (B q j) b) (hb:1 <= b) (ht:top < m) (hk:k < w):∀ q,q < m -> ∀ j,j < w -> RB (pivR B top k q j) (5 * b):=by
 intro q hq j hj
 unfold pivR
 have hd:∀ j,j < w -> RB (B top j / B top k) (2 * b):=fun j hj=>(h top ht j hj).div (h top ht k hk) hb (by omega)
 split
 ·exact (hd j hj).le (by omega)
 ·exact (h q hq j hj).sub ((h q hq k hk).mul (hd j hj) (k:=3 * b) (by omega)) (by omega)
theorem red_RB {m w b:Nat} {M:Mat} (h:∀ q,q < m -> ∀ j,j < w -> RB (M q j) b) (hb:1 <= b):∀ {k},k <= w -> ∀ q,q < m -> ∀ j,j < w -> RB ((redK m M k).M q j) (b * 5 ^ k)
 | 0,_=>fun q hq j hj=>by rw [Nat.pow_zero,Nat.mul_one];exact h q hq j hj
 | k+1,hk=>by
  have ih:=red_RB h hb (k:=k) (by omega)
  have I:=red_inv m M k
  have hp:1 <= b * 5 ^ k:=Nat.mul_pos hb (Nat.pow_pos (by omega))
  have e5:b * 5 ^ (k+1)=5 * (b * 5 ^ k):=by rw [Nat.pow_succ,<- Nat.mul_assoc,Nat.mul_comm]
  rw [e5,redK]
  generalize redK m M k=s at *
  intro q hq j hj
  unfold stepK
  split
  ·exact (ih q hq j hj).le (by omega)
  ·rename_i i hi
   obtain ⟨h1,h2,h3⟩:=findR_some hi
   have ht:s.hs.length < m:=by omega
   exact piv_RB (swap_RB ih (by omega) ht) hp ht (by omega) q hq j hj
theorem pow5 {k:Nat} (h:k <= 8):400 * 5 ^ k <= 156250000:=by
 have:5 ^ k <= 5 ^ 8:=Nat.pow_le_pow_right (by omega) h
 omega
theorem find_idx (M:Mat) (k w:Nat) (hk:k < w):∀ (d top:Nat) (l:List (Nat × Row)),l.length=d -> (∀ i,i < d -> (rwAt l i).2 k=M (top+i) k) -> ∀ s,
  fidx (fun p=>decide (p.2 k ≠ 0)) l s=match findR M k d top with | none=>-1 | some i=>((i - top+s:Nat):Int)
 | 0,top,l,hl,_,s=>by
  rw [List.eq_nil_of_length_eq_zero hl];rfl
 | d+1,top,[],hl,_,s=>by simp at hl
 | d+1,top,x :: l,hl,h,s=>by
  have h0:=h 0 (by omega)
  have e0:rwAt (x :: l) 0=x:=rfl
  rw [e0,Nat.add_zero] at h0
  unfold fidx findR
  by_cases z:M top k ≠ 0
  ·rw [if_pos z,if_pos (decide_eq_true (by rw [h0];exact z))]
   show (s:Int)=((top - top+s:Nat):Int)
   rw [Nat.sub_self,Nat.zero_add]
  ·rw [if_neg z,if_neg (by rw [decide_eq_true_eq,h0];exact z)]
   have ih:=find_idx M k w hk d (top+1) l (by simpa using hl) (fun i hi=>by
    have:=h (i+1) (by omega)
    have e1:rwAt (x :: l) (i+1)=rwAt l i:=rfl
    rw [e1] at this
    rw [this,Nat.add_assoc,Nat.add_comm 1 i]) (s+1)
   rw [ih]
   cases e:findR M k d (top+1) with
   | none=>rfl
   | some i=>
    have:=(findR_some e).1
    show ((i - (top+1)+(s+1):Nat):Int)=((i - top+s:Nat):Int)
    congr 1
    omega
theorem rows_list {hp:Heap} {lo hi kr m w r:Nat} {xr:Bool} {ρ:Nat -> Nat} {R:Mat} {xs:Nat -> Bool} (H:RowsH hp lo hi kr m w xr ρ R xs) (hr:r <= m) (hB:∀ q,q < m -> ∀ j,j < w -> RB (R q j) 268435456) :
  ∃ l a n c,mkSl kr 0 1 m r m = .slice a n c /\ n=m - r /\ listAt 1 (decRow hp) hp (.slice a n c)=some l /\ l.length=m - r /\ ∀ i,i < m - r -> (rwAt l i).1=w /\ ∀ j,j < w -> (rwAt l i).2 j=R (r+i) j:=by
 unfold mkSl
 by_cases e:m=r
 ·subst e
  rw [if_pos rfl]
  exact ⟨[],some ⟨kr,0,some 0⟩,0,0,rfl,by omega,rfl,by simp,fun i hi=>by omega⟩
 ·rw [if_neg e]
  let l:List (Nat × Row):=(List.range (m - r)).map fun i=>(w,rdQ (rowC (R (r+i)) w))
  have hl:l.length=m - r:=by simp [l]
  have hat:∀ i,i < m - r -> l[i]?=some (w,rdQ (rowC (R (r+i)) w)):=fun i hi=>by
   show ((List.range (m - r)).map _)[i]?=_
   rw [List.getElem?_map,List.getElem?_range hi];rfl
  refine ⟨l,some ⟨kr,0+r * 1,none⟩,m - r,m - r,rfl,rfl,?_,hl,fun i hi=>?_⟩
  ·have hlen:=hdrC_len ρ w m
   have ec:((hdrC ρ w m).drop (0+r * 1)).take ((m - r) * 1)=(hdrC ρ w m).drop r:=by
    rw [Nat.zero_add,Nat.mul_one,Nat.mul_one]
    exact List.take_of_length_le (by rw [List.length_drop];omega)
   unfold listAt
   have la:lay 1 hp (.slice (some ⟨kr,0+r * 1,none⟩) (m - r) (m - r))=some ((hdrC ρ w m).drop r):=by
    obtain ⟨d,hd⟩:∃ d,m - r=d+1:=⟨m - r - 1,by omega⟩
    unfold lay
    rw [hd]
    simp only [H.hd]
    rw [if_pos ⟨by omega,by omega⟩,<- hd,ec]
   rw [la]
   have sn:slen (.slice (some ⟨kr,0+r * 1,none⟩) (m - r) (m - r))=m - r:=rfl
   show many 1 (decRow hp) (slen _) _=_
   rw [sn]
   refine many_some hl fun i p hp'=>?_
   have hi:i < m - r:=by
    have:=(List.getElem?_eq_some_iff.1 hp').1;omega
   rw [hat i hi] at hp'
   cases hp'
   have ct:(((hdrC ρ w m).drop r).drop (i * 1)).take 1=[.slice (some ⟨ρ (r+i),0,none⟩) w w]:=by
    have g:=hdrC_at ρ w (m:=m) (i:=r+i) (by omega)
    rw [List.drop_drop,Nat.mul_one]
    have hlt:r+i < (hdrC ρ w m).length:=by omega
    rw [List.drop_eq_getElem_cons hlt]
    rw [List.getElem?_eq_getElem hlt] at g
    rw [Option.some.inj g];rfl
   rw [ct]
   have:=decRow_of (h:=hp) (k:=ρ (r+i)) (c:=w) (N:=w) (H.row (r+i) (by omega)) (Nat.le_refl _) rfl (rowB_of (hB (r+i) (by omega)))
   rw [this]
  ·have e1:rwAt l i=(w,rdQ (rowC (R (r+i)) w)):=by unfold rwAt;rw [hat i hi];rfl
   rw [e1]
   exact ⟨rfl,fun j hj=>rdQ_row hj⟩
structure PlOK (n:Int) (l:List EqR):Prop where
 n0:0 <= n
 n8:n <= 8
 m:l.length <= 100
 len:∀ e ∈ l,e.coef.length=n.toNat
 ok:∀ e ∈ l,(∀ q ∈ e.coef,q.ok 399) /\ e.rhs.ok 399
instance {n:Int} {l:List EqR}:Decidable (PlOK n l):=
 decidable_of_iff (0 <= n /\ n <= 8 /\ l.length <= 100 /\ (∀ e ∈ l,e.coef.length=n.toNat) /\ ∀ e ∈ l,(∀ q ∈ e.coef,q.ok 399) /\ e.rhs.ok 399) ⟨fun ⟨a,b,c,d,e⟩=>⟨a,b,c,d,e⟩,fun ⟨a,b,c,d,e⟩=>⟨a,b,c,d,e⟩⟩
theorem PlOK.at {n:Nat} {l:List EqR} (h:PlOK n l) {i:Nat} (hi:i < l.length) (j:Nat):((eqAt l i).at n j).ok 399:=by
 obtain ⟨a,b⟩:=h.ok _ (eqAt_mem hi)
 unfold EqR.at
 split
 ·rename_i hj
  have hl:=h.len _ (eqAt_mem hi)
  rw [Int.toNat_natCast] at hl
  rw [List.getElem?_eq_getElem (by omega)]
  exact a _ (List.getElem_mem _)
 ·exact b
theorem PlOK.rb {n:Nat} {l:List EqR} (h:PlOK n l):∀ q,q < l.length -> ∀ j,j < n+1 -> RB (eqM n l q j) 400:=fun q hq j _=>(h.at hq j).rb
def intC (l:List Nat):List Value:=l.map fun k => .int .i64 (k:Nat)
def plainNL (n m : Nat) (s : LS) : NewL :=
  ⟨if m = 0 then 0 else if s.hs = [] then m + 1 else m + 2,
   fun σ => .agg ⟨[.int .i64 n, if m = 0 then .slice none 0 0 else .slice (some ⟨σ 0, 0, none⟩) m m, if s.hs = [] then .slice none 0 0 else .slice (some ⟨σ (m + 1), 0, none⟩) s.hs.length s.hs.length]⟩,
   fun i => if i = 0 then 30 else if i ≤ m then 38 else 3,
   fun i => if i = 0 then 1 else if i ≤ m then 3 else 1,
   fun σ i => if i = 0 then hdrC (fun j => σ (j + 1)) (n + 1) m else if i ≤ m then rowC (s.M (i - 1)) (n + 1) else intC s.hs⟩
theorem hdrC_vr {β:Emb} {ρ ρ':Nat -> Nat} {w:Nat}:∀ {m},(∀ j,j < m -> β (ρ j)=some ⟨ρ' j,0,[]⟩) -> VRs β (hdrC ρ w m) (hdrC ρ' w m)
 | 0,_ => .nil
 | m+1,h=>VRs.append (hdrC_vr (m:=m) fun j hj=>h j (by omega)) (.cons _ _ _ _ (VR.sl (ρ m) 0 _ _ ⟨ρ' m,0,[]⟩ (h m (by omega))) .nil)
theorem intC_base (l:List Nat):(intC l).all isBase=true:=by
 unfold intC
 rw [List.all_map]
 exact List.all_eq_true.2 fun x _=>rfl
theorem plainNL_par (n m:Nat) (s:LS) (hm:m=0 -> s.hs=[]) (h:Heap):(plainNL n m s).Par h:=by
 constructor
 ·intro β σ σ' b1 _
  refine .agg _ _ (.cons _ _ _ _ (.base _ rfl) (.cons _ _ _ _ ?_ (.cons _ _ _ _ ?_ .nil)))
  ·by_cases z:m=0
   ·rw [if_pos z,if_pos z];exact .base _ rfl
   ·rw [if_neg z,if_neg z]
    refine VR.sl (σ 0) 0 _ _ ⟨σ' 0,0,[]⟩ (b1 0 ?_)
    show 0 < if m=0 then 0 else _
    rw [if_neg z];split <;> omega
  ·by_cases y:s.hs=[]
   ·rw [if_pos y,if_pos y];exact .base _ rfl
   ·rw [if_neg y,if_neg y]
    refine VR.sl (σ (m+1)) 0 _ _ ⟨σ' (m+1),0,[]⟩ (b1 (m+1) ?_)
    show m+1 < if m=0 then 0 else _
    rw [if_neg (fun e=>y (hm e)),if_neg y];omega
 ·intro β σ σ' b1 _ i hi
  change i < (if m=0 then 0 else if s.hs=[] then m+1 else m+2) at hi
  show VRs β (if i=0 then _ else _) (if i=0 then _ else _)
  by_cases z:m=0
  ·rw [if_pos z] at hi;omega
  rw [if_neg z] at hi
  by_cases y:i=0
  ·rw [if_pos y,if_pos y]
   refine hdrC_vr fun j hj=>b1 (j+1) ?_
   show j+1 < if m=0 then 0 else _
   rw [if_neg z];split <;> omega
  ·rw [if_neg y,if_neg y]
   by_cases x:i <= m
   ·rw [if_pos x];exact VRs.of_base (rowC_base _ _)
   ·rw [if_neg x];exact VRs.of_base (intC_base _)
def spPlain:List Value -> Heap -> Option NewL
 | [.int .i64 n,sl],h=>match decRows h sl with
  | some l=>if PlOK n l then some (plainNL n.toNat l.length (redK l.length (eqM n.toNat l) n.toNat)) else none
  | none=>none
 | _,_=>none
def HdrS (hp:Heap) (lo hi m w:Nat) (slr:Value) (R:Mat):Prop:=
 (m=0 /\ slr = .slice none 0 0) \/ (0 < m /\ ∃ kr xr ρ xs,slr = .slice (some ⟨kr,0,none⟩) m m /\ RowsH hp lo hi kr m w xr ρ R xs)
def HeadS (hp:Heap) (lo hi kr m:Nat) (ρ:Nat -> Nat) (hs:List Nat) (ah:Option Addr):Prop:=
 (hs=[] /\ ah=none) \/ (hs ≠ [] /\ ∃ kh xh,ah=some ⟨kh,0,none⟩ /\ hget hp kh=some ⟨3,1,xh,intC hs⟩ /\ lo <= kh /\ kh < hi /\ kh ≠ kr /\ ∀ j,j < m -> ρ j ≠ kh)
theorem HeadS.mono {hp hp':Heap} {lo hi hi' kr m:Nat} {ρ:Nat -> Nat} {hs:List Nat} {ah:Option Addr} (H:HeadS hp lo hi kr m ρ hs ah) (hh:hi <= hi') (he:∀ q,lo <= q -> q < hi -> q ≠ kr -> (∀ j,j < m -> ρ j ≠ q) -> hget hp' q=hget hp q):HeadS hp' lo hi' kr m ρ hs ah:=by
 rcases H with H | ⟨a,kh,xh,b,c,d,e,f,g⟩
 ·exact .inl H
 ·exact .inr ⟨a,kh,xh,b,by rw [he kh d e f g];exact c,d,by omega,f,g⟩
theorem raw_at {l:List EqR} {n:Nat} (hs:PlOK n l) {i:Nat} (hi:i < l.length) {j:Nat} (hj:j < n+1):((eqAt l i).coef ++ [(eqAt l i).rhs])[j]?=some ((eqAt l i).at n j):=by
 have hl:=hs.len _ (eqAt_mem hi)
 rw [Int.toNat_natCast] at hl
 unfold EqR.at
 by_cases c:j < n
 ·rw [if_pos c,List.getElem?_append_left (by omega),List.getElem?_eq_getElem (by omega)];rfl
 ·rw [if_neg c,List.getElem?_append_right (by omega),hl,show j - n=0 by omega];rfl
theorem qNorm_of {q:RQ} (h:q.ok 399):spQNorm [.agg ⟨q.cells⟩]=some (.agg ⟨rE q.v⟩):=if_pos ⟨Nat.le_trans h.1 (by omega),Nat.le_trans h.2 (by omega)⟩
def ExtL (N:Nat) (h hp:Heap):Prop:=∀ k,k < N -> hget hp k=hget h k
theorem extL_cons (N j:Nat) (b:Option Blk) (h hp:Heap):ExtL N h ((N+j,b) :: hp)=ExtL N h hp:=by
 have e:∀ k,k < N -> (N+j=k)=False:=fun k hk=>eq_false (by omega)
 exact propext ⟨fun H k hk=>by have:=H k hk;simp only [hget,e k hk,if_false] at this;exact this,fun H k hk=>by simp only [hget,e k hk,if_false];exact H k hk⟩
theorem extL_ge {N M:Nat} (hM:N <= M) (j:Nat) (b:Option Blk) (h hp:Heap):ExtL N h ((M+j,b) :: hp)=ExtL N h hp:=by
 obtain ⟨d,rfl⟩:∃ d,M=N+d:=⟨M - N,by omega⟩
 rw [Nat.add_assoc]
 exact extL_cons _ _ _ _ _
theorem newHL0 (v e s c) (σ:Nat -> Nat):newH ⟨0,v,e,s,c⟩ σ 0=[]:=rfl
theorem newHL1 (v e s c) (σ:Nat -> Nat):newH ⟨1,v,e,s,c⟩ σ 1=[(σ 0,some ⟨e 0,s 0,false,c σ 0⟩)]:=rfl
theorem nil_list {h:Heap} {n c:Nat} {l:List RQ} (e:listAt 3 dec1 h (.slice none n c)=some l):n=0 /\ c=0:=by
 unfold listAt at e
 rw [Option.bind_eq_some_iff] at e
 obtain ⟨cs,e1,_⟩:=e
 unfold lay at e1
 split at e1
 ·rename_i x;cases x;exact ⟨rfl,rfl⟩
 ·rename_i x;cases x
 ·rename_i x;cases x
 ·cases e1
theorem RowsH.mono2 {hp hp':Heap} {lo hi hi' kr m w:Nat} {xr:Bool} {ρ:Nat -> Nat} {R:Mat} {xs:Nat -> Bool} (H:RowsH hp lo hi kr m w xr ρ R xs) (hh:hi <= hi') (he:∀ q,(q=kr \/ ∃ j,j < m /\ q=ρ j) -> hget hp' q=hget hp q):RowsH hp' lo hi' kr m w xr ρ R xs where
 hd:=by rw [he kr (.inl rfl)];exact H.hd
 row:=fun j hj=>by rw [he _ (.inr ⟨j,hj,rfl⟩)];exact H.row j hj
 inj:=H.inj
 ne:=H.ne
 bd:=fun j hj=>by have:=H.bd j hj;omega
 kb:=by have:=H.kb;omega
theorem RowsH.one {hp:Heap} {lo hi kr kk w:Nat} {x xk:Bool} {R:Mat} (h1:hget hp kr=some ⟨30,1,x,[.slice (some ⟨kk,0,none⟩) w w]⟩) (h2:hget hp kk=some ⟨38,3,xk,rowC (R 0) w⟩) (b1:lo <= kr /\ kr < hi) (b2:lo <= kk /\ kk < hi) (ne:kk ≠ kr) :
  RowsH hp lo hi kr 1 w x (fun _=>kk) R (fun _=>xk) where
 hd:=h1
 row:=fun j hj=>by
  have:j=0:=by omega
  subst this;exact h2
 inj:=fun i j hi hj _=>by omega
 ne:=fun _ _=>ne
 bd:=fun _ _=>b2
 kb:=b1
theorem RowsH.push {hp hp':Heap} {lo hi hi' kr kr' kk m w:Nat} {xr x xk:Bool} {ρ:Nat -> Nat} {R:Mat} {xs:Nat -> Bool} (H:RowsH hp lo hi kr m w xr ρ R xs) (h1:hget hp' kr'=some ⟨30,1,x,hdrC ρ w m ++ [.slice (some ⟨kk,0,none⟩) w w]⟩)
  (h2:hget hp' kk=some ⟨38,3,xk,rowC (R m) w⟩) (b0:lo <= hi) (b1:hi <= kr' /\ kr' < hi') (b2:hi <= kk /\ kk < hi') (ne:kk ≠ kr') (he:∀ q,lo <= q -> q < hi -> q ≠ kr -> hget hp' q=hget hp q) :
  RowsH hp' lo hi' kr' (m+1) w x (fun q=>if q=m then kk else ρ q) R (fun q=>if q=m then xk else xs q) where
 hd:=by
  rw [h1,hdrC,if_pos rfl]
  have e:hdrC (fun q=>if q=m then kk else ρ q) w m=hdrC ρ w m:=hdrC_congr fun i hi=>if_neg (by omega)
  rw [e]
 row:=fun j hj=>by
  by_cases e:j=m
  ·simp only [e,if_true];exact h2
  ·simp only [if_neg e]
   rw [he _ (H.bd j (by omega)).1 (H.bd j (by omega)).2 (H.ne j (by omega))];exact H.row j (by omega)
 inj:=fun i j hi hj e=>by
  have f:∀ q,q < m -> ρ q < kk:=fun q hq=>by have:=H.bd q hq;omega
  by_cases e1:i=m <;> by_cases e2:j=m
  ·omega
  ·simp only [if_pos e1,if_neg e2] at e
   have:=f j (by omega);omega
  ·simp only [if_pos e2,if_neg e1] at e
   have:=f i (by omega);omega
  ·simp only [if_neg e1,if_neg e2] at e
   exact H.inj i j (by omega) (by omega) e
 ne:=fun j hj=>by
  by_cases e:j=m
  ·simp only [e,if_true];exact ne
  ·simp only [if_neg e]
   have:=H.bd j (by omega);omega
 bd:=fun j hj=>by
  by_cases e:j=m
  ·simp only [e,if_true];omega
  ·simp only [if_neg e]
   have:=H.bd j (by omega);omega
 kb:=by omega
theorem mem_rwAt {l:List (Nat × Row)} {p:Nat × Row} (h:p ∈ l):∃ i,i < l.length /\ rwAt l i=p:=by
 obtain ⟨i,hi⟩:=List.getElem?_of_mem h
 exact ⟨i,(List.getElem?_eq_some_iff.1 hi).1,by unfold rwAt;rw [hi];rfl⟩
theorem idx_rows {hp:Heap} {lo hi kr m w r k f:Nat} {cs:List Value} {xr:Bool} {ρ:Nat -> Nat} {R:Mat} {xs:Nat -> Bool} (H:RowsH hp lo hi kr m w xr ρ R xs) (hr:r <= m) (hB:∀ q,q < m -> ∀ j,j < w -> RB (R q j) 268435456) (hk:k < w) (hw:w <= 1000) (hm:m <= 1000) (hc:spCol f cs hp=some k) :
  spIdxR [mkSl kr 0 1 m r m,.func (.func f) ⟨[]⟩ ⟨cs⟩] hp=some (.int .i64 (match findR R k (m - r) r with | none=>-1 | some i=>((i - r:Nat):Int))):=by
 obtain ⟨L,a,n,c,e1,e2,e3,e4,e5⟩:=rows_list H hr hB
 rw [e1,spIdxR_of e3 hc (fun p hp=>by
  obtain ⟨i,hi,rfl⟩:=mem_rwAt hp
  have:=(e5 i (by omega)).1
  omega) (by omega)]
 rw [find_idx R k w hk (m - r) r L e4 (fun i hi=>(e5 i hi).2 k hk) 0]
 rfl
theorem spCol_1 {hp:Heap} {kc k e s:Nat} {x:Bool} (h:hget hp kc=some ⟨e,s,x,[.int .i64 (k:Nat)]⟩):spCol 62 [.pointer (some ⟨kc,0,none⟩)] hp=some k:=by
 unfold spCol
 rw [if_pos rfl]
 simp only [h]
 rw [if_pos (by omega),Int.toNat_natCast]
theorem idx_nil {hp:Heap} {k f:Nat} {cs:List Value} (hc:spCol f cs hp=some k):spIdxR [.slice none 0 0,.func (.func f) ⟨[]⟩ ⟨cs⟩] hp=some (.int .i64 (-1)):=
 spIdxR_of (l:=[]) rfl hc (fun p hp=>by cases hp) (by omega)
theorem plainNL_0 {n m:Nat} {s:LS} (hm:m=0) (hs:s.hs=[]):(plainNL n m s).m=0 /\ ∀ σ,(plainNL n m s).val σ = .agg ⟨[.int .i64 n,.slice none 0 0,.slice none 0 0]⟩:=by
 refine ⟨if_pos hm,fun σ=>?_⟩
 show Value.agg ⟨[_,if m=0 then _ else _,if s.hs=[] then _ else _]⟩=_
 rw [if_pos hm,if_pos hs]
theorem each2_of {hp:Heap} {k kf n c e ef sf:Nat} {x xf:Bool} {f:Row} {y:Rat} (h1:hget hp k=some ⟨e,3,x,rowC f n⟩) (h2:hget hp kf=some ⟨ef,sf,xf,rE y⟩) (hf:∀ j,j < n -> RB (f j) 268435456) (hy:RB y 268435456) (h0:y ≠ 0) (hn:n <= 1000000) (ne:kf ≠ k) :
  spEach [.slice (some ⟨k,0,none⟩) n c,.func (.func 65) ⟨[]⟩ ⟨[.pointer (some ⟨kf,0,none⟩)]⟩] hp=some (.tuple ⟨[]⟩,k,⟨e,3,x,rowC (fun j=>f j / y) n⟩):=by
 obtain ⟨a,b⟩:=rowB_rE hy
 unfold spEach
 simp only [h1,h2]
 have er:rowC (fun j=>rdQ (rowC f n) j / y) n=rowC (fun j=>f j / y) n:=rowC_congr fun j hj=>by rw [rdQ_row hj]
 rw [if_pos ⟨rowB_of hf,hn,trivial⟩,if_pos trivial,if_pos ⟨a,by rw [b];exact h0,ne⟩,b,er]
theorem each3_of {hp:Heap} {k kb kh kr n c c' e eb sb eh sh er sr:Nat} {x xb xh xr:Bool} {f g:Row} {y:Rat} (h1:hget hp k=some ⟨e,3,x,rowC f n⟩) (h2:hget hp kb=some ⟨eb,sb,xb,rE y⟩) (h3:hget hp kh=some ⟨eh,sh,xh,[.slice (some ⟨kr,0,none⟩) n c']⟩) (h4:hget hp kr=some ⟨er,sr,xr,rowC g n⟩)
  (hf:∀ j,j < n -> RB (f j) 268435456) (hg:∀ j,j < n -> RB (g j) 268435456) (hy:RB y 268435456) (hn:n <= 1000000) (n1:kb ≠ k) (n2:kh ≠ k) (n3:kr ≠ k) :
  spEach [.slice (some ⟨k,0,none⟩) n c,.func (.func 67) ⟨[]⟩ ⟨[.pointer (some ⟨kb,0,none⟩),.pointer (some ⟨kh,0,none⟩)]⟩] hp=some (.tuple ⟨[]⟩,k,⟨e,3,x,rowC (fun j=>f j - y * g j) n⟩):=by
 obtain ⟨a,b⟩:=rowB_rE hy
 unfold spEach
 simp only [h1,h2,h3,h4]
 have er:rowC (fun j=>rdQ (rowC f n) j - y * rdQ (rowC g n) j) n=rowC (fun j=>f j - y * g j) n:=rowC_congr fun j hj=>by rw [rdQ_row hj,rdQ_row hj]
 rw [if_pos ⟨rowB_of hf,hn,trivial⟩,if_neg (by decide),if_pos trivial,if_pos ⟨a,rowB_of hg,Nat.le_refl _,hn,n1,n2,n3⟩,b,er]
theorem plain_fin {hp:Heap} {N M kr n m:Nat} {xr:Bool} {ρ:Nat -> Nat} {xs:Nat -> Bool} {s:LS} {ah:Option Addr} (H:RowsH hp (N+2) M kr m (n+1) xr ρ s.M xs) (HS:HeadS hp (N+2) M kr m ρ s.hs ah) (m0:0 < m) :
  ∃ σ:Nat -> Nat,(∀ i,i < (plainNL n m s).m -> N <= σ i) /\ (∀ i j,i < (plainNL n m s).m -> j < (plainNL n m s).m -> σ i=σ j -> i=j) /\
   .agg ⟨[.int .i64 n,.slice (some ⟨kr,0,none⟩) m m,.slice ah s.hs.length s.hs.length]⟩=(plainNL n m s).val σ /\ ∀ i,i < (plainNL n m s).m -> ∃ x,hget hp (σ i)=some ⟨(plainNL n m s).elem i,(plainNL n m s).sz i,x,(plainNL n m s).cells σ i⟩:=by
 have pm:(plainNL n m s).m=if s.hs=[] then m+1 else m+2:=if_neg (by omega)
 have hb:=H.kb
 rcases HS with ⟨z,rfl⟩ | ⟨z,kh,xh,rfl,h2,h3,h4,h5,h6⟩
 ·rw [if_pos z] at pm
  rw [pm]
  refine ⟨fun t=>if t=0 then kr else ρ (t - 1),fun i hi=>?_,fun i j hi hj e=>?_,?_,fun i hi=>?_⟩
  ·show N <= if i=0 then kr else ρ (i - 1)
   split
   ·omega
   ·have:=H.bd (i - 1) (by omega);omega
  ·change (if i=0 then kr else ρ (i - 1))=(if j=0 then kr else ρ (j - 1)) at e
   split at e <;> split at e
   ·omega
   ·exact absurd e.symm (H.ne _ (by omega))
   ·exact absurd e (H.ne _ (by omega))
   ·have:=H.inj _ _ (by omega) (by omega) e;omega
  ·show _=Value.agg ⟨[_,if m=0 then _ else _,if s.hs=[] then _ else _]⟩
   rw [if_neg (by omega),if_pos z,z];rfl
  ·by_cases e:i=0
   ·subst e
    exact ⟨xr,H.hd⟩
   ·refine ⟨xs (i - 1),?_⟩
    have:=H.row (i - 1) (by omega)
    simp only [plainNL,if_neg e,if_pos (show i <= m by omega)]
    exact this
 ·rw [if_neg z] at pm
  rw [pm]
  refine ⟨fun t=>if t=0 then kr else if t <= m then ρ (t - 1) else kh,fun i hi=>?_,fun i j hi hj e=>?_,?_,fun i hi=>?_⟩
  ·show N <= if i=0 then kr else if i <= m then ρ (i - 1) else kh
   split
   ·omega
   ·split
    ·have:=H.bd (i - 1) (by omega);omega
    ·omega
  ·change (if i=0 then kr else if i <= m then ρ (i - 1) else kh)=(if j=0 then kr else if j <= m then ρ (j - 1) else kh) at e
   by_cases i0:i=0 <;> by_cases j0:j=0
   ·omega
   ·by_cases jm:j <= m
    ·simp only [if_pos i0,if_neg j0,if_pos jm] at e
     exact absurd e.symm (H.ne _ (by omega))
    ·simp only [if_pos i0,if_neg j0,if_neg jm] at e
     exact absurd e.symm h5
   ·by_cases im:i <= m
    ·simp only [if_pos j0,if_neg i0,if_pos im] at e
     exact absurd e (H.ne _ (by omega))
    ·simp only [if_pos j0,if_neg i0,if_neg im] at e
     exact absurd e h5
   ·by_cases im:i <= m <;> by_cases jm:j <= m
    ·simp only [if_neg i0,if_neg j0,if_pos im,if_pos jm] at e
     have:=H.inj _ _ (by omega) (by omega) e;omega
    ·simp only [if_neg i0,if_neg j0,if_pos im,if_neg jm] at e
     exact absurd e (h6 _ (by omega))
    ·simp only [if_neg i0,if_neg j0,if_neg im,if_pos jm] at e
     exact absurd e.symm (h6 _ (by omega))
    ·omega
  ·show _=Value.agg ⟨[_,if m=0 then _ else _,if s.hs=[] then _ else _]⟩
   rw [if_neg (by omega),if_neg z]
   simp only [if_true,if_neg (show ¬ m+1=0 by omega),if_neg (show ¬ m+1 <= m by omega)]
  ·by_cases e:i=0
   ·subst e
    refine ⟨xr,?_⟩
    have:=H.hd
    simp only [plainNL,if_true]
    rw [this]
    congr 2
    refine hdrC_congr fun j hj=>?_
    rw [if_neg (by omega),if_pos (by omega)];rfl
   ·by_cases e2:i <= m
    ·refine ⟨xs (i - 1),?_⟩
     have:=H.row (i - 1) (by omega)
     simp only [plainNL,if_neg e,if_pos e2]
     exact this
    ·refine ⟨xh,?_⟩
     simp only [plainNL,if_neg e,if_neg e2]
     exact h2
theorem RowsH.swap {hp hp':Heap} {lo hi kr m w i top k:Nat} {xr x:Bool} {ρ:Nat -> Nat} {R:Mat} {xs:Nat -> Bool} (H:RowsH hp lo hi kr m w xr ρ R xs) (hi':i < m) (ht:top < m)
  (h1:hget hp' kr=some ⟨30,1,xr,hdrC (fun q=>if q=top then ρ i else if q=i then ρ top else ρ q) w m⟩)
  (h2:hget hp' (ρ i)=some ⟨38,3,x,rowC (fun j=>R i j / R i k) w⟩) (he:∀ q,lo <= q -> q < hi -> q ≠ kr -> q ≠ ρ i -> hget hp' q=hget hp q) :
  RowsH hp' lo hi kr m w xr (fun q=>if q=top then ρ i else if q=i then ρ top else ρ q) (fun q=>if q < 0 \/ q=top then pivR (swapR R top i) top k q else swapR R top i q) (fun q=>if q=top then x else if q=i then xs top else xs q) where
 hd:=h1
 row:=fun j hj=>by
  by_cases e:j=top
  ·subst e
   simp only [if_true,or_true]
   rw [h2]
   congr 3
   funext t
   unfold pivR swapR
   rw [if_pos rfl,if_pos rfl]
  ·have e0:¬ (j < 0 \/ j=top):=by omega
   simp only [if_neg e,if_neg e0]
   by_cases e':j=i
   ·simp only [if_pos e']
    rw [he _ (H.bd top ht).1 (H.bd top ht).2 (H.ne top ht) (fun z=>e (by rw [e'];exact (H.inj top i ht hi' z).symm)),H.row top ht]
    unfold swapR
    rw [if_neg e,if_pos e']
   ·simp only [if_neg e']
    rw [he _ (H.bd j hj).1 (H.bd j hj).2 (H.ne j hj) (fun z=>e' (H.inj j i hj hi' z)),H.row j hj]
    unfold swapR
    rw [if_neg e,if_neg e']
 inj:=fun a b ha hb e=>by
  have hτ:∀ q,(if q=top then ρ i else if q=i then ρ top else ρ q)=ρ (if q=top then i else if q=i then top else q):=fun q=>by
   split
   ·rfl
   ·split <;> rfl
  have e':ρ (if a=top then i else if a=i then top else a)=ρ (if b=top then i else if b=i then top else b):=by rw [<- hτ,<- hτ];exact e
  have bd:∀ q,q < m -> (if q=top then i else if q=i then top else q) < m:=fun q hq=>by
   split
   ·exact hi'
   ·split
    ·exact ht
    ·exact hq
  have:=H.inj _ _ (bd a ha) (bd b hb) e'
  split at this <;> split at this <;> (try split at this) <;> (try split at this) <;> omega
 ne:=fun j hj=>by
  show (if j=top then ρ i else if j=i then ρ top else ρ j) ≠ kr
  split
  ·exact H.ne i hi'
  ·split
   ·exact H.ne top ht
   ·exact H.ne j hj
 bd:=fun j hj=>by
  show lo <= (if j=top then ρ i else if j=i then ρ top else ρ j) /\ (if j=top then ρ i else if j=i then ρ top else ρ j) < hi
  split
  ·exact H.bd i hi'
  ·split
   ·exact H.bd top ht
   ·exact H.bd j hj
 kb:=H.kb
end Go.Eng
end
