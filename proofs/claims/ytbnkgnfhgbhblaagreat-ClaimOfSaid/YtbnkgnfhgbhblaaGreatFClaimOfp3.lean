/- What the proof of this claim leans on, part 3. -/
import Derived.Test.YtbnkgnfhgbhblaaGreatFClaimOfp2
set_option linter.all false
open Bool renaming and_eq_true→E3R,and_false→E4O,false_and→E3W,false_eq_true→E4M,not_eq_true'→E4D,or_eq_true→E4K,true_and→E31
open Int renaming cast_ofNat_Int→E4j,reduceEq→E4V,toNat_natCast→E38
open List renaming all_cons→E4x,all_eq_true→E4H,append_assoc→E3U,append_nil→E4f,cons_append→E4l,drop_drop→E4S,drop_eq_getElem_cons→E3V,drop_of_length_le→E32,drop_zero→E39,flatten_cons→E4L,getD_eq_getElem?_getD→E30,getElem?_cons_succ→E4C,getElem?_drop→E4G,getElem?_eq_getElem→E3P,getElem?_eq_none→E4q,getElem?_take_of_lt→E4n,getElem_mem→E4u,length_append→E3S,length_cons→E3Z,length_nil→E4h,length_replicate→E4g,length_set→E4o,length_take→E4k,map_append→E4J,map_cons→E4R,mem_cons_of_mem→E4a,mem_cons_self→E4c,mem_of_getElem?→E4e,mem_or_eq_of_mem_set→E4z,nil_append→E37,range→E4m,range'→E4s,replicate→E3Q,replicate_succ→E4i,set_append_right→E4p,set_cons_succ→E4B,set_cons_zero→E4A,take_of_length_le→E3Y,take_succ_eq_append_getElem→E36,take_zero→E4P
open Nat renaming add_zero→E4U,le_refl→E3T,le_trans→E4t,min→E4W,min_eq_left→E4N,mod_eq_of_lt→E4E,sub_self→E4y,zero_add→E4b
open Option renaming bind_some→E3X,getD_none→E4F,getD_some→E4w,isSome_none→E4d,isSome_some→E33
namespace Go.Proofs.YtbnkgnfhgbhblaaGreat
open Go Go.Esc
def D2k (h:Nat) (c:UInt8):Nat:=((h ^^^ c.toNat)*16777619)%4294967296
def B0U (h:Nat) (s:List UInt8):Nat:=s.foldl D2k h
def wZ (s:List UInt8):Nat:=B0U 2166136261 s
theorem D0y {h:Nat} {c:UInt8}:D2k h c<4294967296:=Nat.mod_lt _ (by omega)
theorem D3B {s:List UInt8}:∀ {h:Nat},h<4294967296->B0U h s<4294967296:=by
 induction s with
 | nil=>intro h hh;exact hh
 | cons c s ih=>intro h _;exact ih D0y
theorem C2u {s:List UInt8}:wZ s<4294967296:=D3B (by omega)
theorem D02 {a:Int}:IntKind.wrap .u32 a=a%4294967296:=by
 simp only [IntKind.wrap,IntKind.bits,IntKind.signed,E3W];rfl
theorem B2n {s:List UInt8} (hs:s.length<9223372036854775807) {q:Nat} {h:A6}:∀ (d i m H:Nat),i+d=s.length->d<m->H<4294967296 ->
  C0X q m (.c (.i .u32 H)) (.c (.s s)) (iV s.length) (iV i) h=some (.c (.i .u32 ((B0U H (s.drop i):Nat):Int)),h)
 | d,i,0,H,_,hm,_=>by omega
 | 0,i,m+1,H,hi,hm,hH=>by
  have c0:¬ (i:Int)<s.length:=by omega
  rw [B0b,E32 (by omega)];simp only [esc,c0,B0U,List.foldl_nil]
 | d+1,i,m+1,H,hi,hm,hH=>by
  have h2:i<s.length:=by omega
  have hb:=s[i].toNat_lt;have ih:=B2n hs (q:=q) (h:=h) d (i+1) m (D2k H s[i]) (by omega) (by omega) D0y;have c0:(i:Int)<s.length:=by omega
  have e1:IntKind.wrap .u32 (s[i].toNat:Int)=s[i].toNat:=wrap_u32 (by omega) (by omega);have e2:=D9W (a:=H) (b:=s[i].toNat) hH (by omega);have e3:IntKind.wrap .u32 (((H ^^^ s[i].toNat:Nat):Int)*16777619)=((D2k H s[i]:Nat):Int):=by
   rw [D02];unfold D2k;omega
  rw [B0b,E3V h2];simp only [esc,c0,iW h2,e1,e2,e3,C6 (show i+1<9223372036854775808 by omega)];exact ih
theorem C87 {s:List UInt8} (hs:s.length<9223372036854775807) {h:A6}:C39 [.c (.s s)] h=some (.c (.i .u32 ((wZ s:Nat):Int)),h):=by
 have hm:∀ h,B3J [.c (.i .u32 2166136261),.c (.s s)] h=some (.c (.i .u32 ((wZ s:Nat):Int)),h):=λh=>by
  refine C13 (n:=s.length+1) (h2:=ro h) ?_ rfl;rw [C63];have:=B2n hs (q:=s.length+1) (h:=ro h) s.length 0 (s.length+1) 2166136261 (by omega) (by omega) (by omega);simp only [esc];exact this
 refine C7o (n:=0) (h2:=ro h) ?_ rfl;rw [D07];simp only [esc,hm]
theorem D9V {h c:Nat} (hc:c<256):h-h%256+(h%256 ^^^ c)=h ^^^ c:=by
 have e1:(h ^^^ c)/256=h/256:=by
  have:=Nat.xor_div_two_pow (a:=h) (b:=c) (n:=8);rw [show (2:Nat) ^ 8=256 from rfl,Nat.div_eq_of_lt hc,Nat.xor_zero] at this;exact this
 have e2:(h ^^^ c)%256=h%256 ^^^ c:=by
  have:=Nat.xor_mod_two_pow (a:=h) (b:=c) (n:=8);rw [show (2:Nat) ^ 8=256 from rfl,E4E hc] at this;exact this
 have h1:=Nat.div_add_mod (h ^^^ c) 256;have h2:=Nat.div_add_mod h 256;rw [e1,e2] at h1;omega
theorem A7i {s:List UInt8} (hs:s.length<9223372036854775807) {q:Nat} {h:A6}:∀ (d i m H:Nat),i+d=s.length->d<m->H<4294967296 ->
  B6e q m (.c (.i .u64 H)) (.c (.s s)) (iV i) h=some (.c (.i .u64 ((B0U H (s.drop i):Nat):Int)),h)
 | d,i,0,H,_,hm,_=>by omega
 | 0,i,m+1,H,hi,hm,hH=>by
  have c0:¬ (i:Int)<s.length:=by omega
  rw [A6S,E32 (by omega)];simp only [esc,c0,B0U,List.foldl_nil]
 | d+1,i,m+1,H,hi,hm,hH=>by
  have h2:i<s.length:=by omega
  have hb:=s[i].toNat_lt;have ih:=A7i hs (q:=q) (h:=h) d (i+1) m (D2k H s[i]) (by omega) (by omega) D0y;have c0:(i:Int)<s.length:=by omega
  have hx:(H ^^^ s[i].toNat)<2 ^ 32:=Nat.xor_lt_two_pow (by simpa using hH) (by omega);have e0:N9 .rem (.c (.i .u64 (H:Int))) (.c (.i .u64 256))=some (.c (.i .u64 ((H%256:Nat):Int))):=by
   rw [B2B (by omega) (by omega)];simp
  have e1:IntKind.wrap .u64 (s[i].toNat:Int)=s[i].toNat:=wrap_u64 (by omega) (by omega);have e2:N9 .xor (.c (.i .u64 ((H%256:Nat):Int))) (.c (.i .u64 (s[i].toNat:Int)))=some (.c (.i .u64 ((H%256 ^^^ s[i].toNat:Nat):Int))):=by
   rw [D1f];have h1:(IntKind.u64).bits=64:=rfl;have h3:(H%256 ^^^ s[i].toNat)<2 ^ 64:=Nat.xor_lt_two_pow (by omega) (by omega);rw [h1];simp only [BitVec.ofInt_natCast,BitVec.toNat_xor,BitVec.toNat_ofNat];rw [E4E (show H%256<2 ^ 64 by omega),E4E (show s[i].toNat<2 ^ 64 by omega)];exact congrArg some (congrArg Val.c (congrArg (Cell.i .u64) (wrap_u64 (by omega) (by omega))))
  have hl:=D9V (h:=H) (c:=s[i].toNat) (by omega);have e3:IntKind.wrap .u64 ((H:Int)-((H%256:Nat):Int))=((H-H%256:Nat):Int):=by rw [wrap_u64 (by omega) (by omega)];omega
  have e4:IntKind.wrap .u64 (((H-H%256:Nat):Int)+((H%256 ^^^ s[i].toNat:Nat):Int))=((H ^^^ s[i].toNat:Nat):Int):=by
   have e:((H-H%256:Nat):Int)+((H%256 ^^^ s[i].toNat:Nat):Int)=((H ^^^ s[i].toNat:Nat):Int):=by rw [<-hl];omega
   rw [e];exact wrap_u64 (by omega) (by omega)
  have e5:IntKind.wrap .u64 (((H ^^^ s[i].toNat:Nat):Int)*16777619)=(((H ^^^ s[i].toNat)*16777619:Nat):Int):=by
   have e:((H ^^^ s[i].toNat:Nat):Int)*16777619=(((H ^^^ s[i].toNat)*16777619:Nat):Int):=by omega
   rw [e];exact wrap_u64 (by omega) (by omega)
  have e6:N9 .rem (.c (.i .u64 (((H ^^^ s[i].toNat)*16777619:Nat):Int))) (.c (.i .u64 4294967296))=some (.c (.i .u64 ((D2k H s[i]:Nat):Int))):=by
   rw [B2B (a:=(((H ^^^ s[i].toNat)*16777619:Nat):Int)) (b:=4294967296) (by omega) (by omega)];unfold D2k;exact congrArg some (congrArg Val.c (congrArg (Cell.i .u64) (by omega)))
  rw [A6S,E3V h2];simp only [esc,c0,e0,iW h2,e1,e2,e3,e4,e5,e6,C6 (show i+1<9223372036854775808 by omega)];exact ih
theorem C02 {s:List UInt8} (hs:s.length<9223372036854775807) {h:A6}:B7S [.c (.s s)] h=some (.c (.i .u64 ((wZ s:Nat):Int)),h):=by
 have hm:∀ h,A8q [.c (.i .u64 2166136261),.c (.s s)] h=some (.c (.i .u64 ((wZ s:Nat):Int)),h):=λh=>by
  refine B7R (n:=s.length+1) (h2:=ro h) ?_ rfl;rw [C24];exact A7i hs (q:=s.length+1) (h:=ro h) s.length 0 (s.length+1) 2166136261 (by omega) (by omega) (by omega)
 refine C3I (n:=0) (h2:=ro h) ?_ rfl;rw [C9C];simp only [esc,hm]
end Go.Proofs.YtbnkgnfhgbhblaaGreat
namespace Go.Proofs.YtbnkgnfhgbhblaaGreat
open Go Go.Esc
set_option maxRecDepth 100000
noncomputable section
variable (n m m2:Nat) (a0 x1 x3 x10:Val) (h:A6)
def aD:FD Tryz.prog:=⟨px 0X11211212015211212241e82d161e47c61c044c61907c4961a7c61c142e4d182d1215211212241a81a11637c496187c61c14294d5180241881a11889657c61c141e4d41a1220246c1a149617c61c141b4d41a1221a1211a15211212244c314889657c61c0474d4180243831189617c61c0444d4312231201a05031062ec2112,[],[],[.tmp 2],[]⟩
def A2H:=aD.R
def C6x:AtH:=aD.lj 0 n [] [x1,x3]
def C6y:AtH:=aD.lj 1 n [] [x1,x10]
def A3e:=tT [⟨1,2,C6x⟩,⟨1,2,C6y⟩]
def B7J:=mR A2H aD A3e n [a0] h
def U3:=mJ aD A3e 0 n [] [x1,x3] h
def cJ:=mJ aD A3e 1 n [] [x1,x10] h
def B1H:=aD.K Tryz.func43
def A3b:=aD.S
theorem lA:SOk Tryz.prog 43 A3b:=B1H.sok
theorem B3M:E5 A2H A3b:=B1H.flat
def A1o:FD Tryz.prog:=⟨px 0X11312184881de6291a91e421ac64dc4802c4885839632222bc1816161ac06881a916351ac2c48838518523222c4881de6691a341ac3802c488493945222288011fc6113a6802e3f691f83a164911e431ac61c244c49491703b5cb181196523322c4881de619591e421ac61c144c2c4883855213222c4881de619491e421ac61c044c6e4882a3955213218c24881de1c52d96111ac64ac3b172f162b153141f131b12711310181b1811f3fd55213201783166a4881de5a001c3e843222241637c3e1b121c4214258416101ac4319393421322123101c2d862ec32122,[.c (.i .u8 101),.c (.i .u8 115),.c (.i .u8 99),.c (.i .u8 104),.c (.i .u8 97),.c (.i .u8 116),.c (.i .u8 49)],[.b2s (.t 37)],[.cellN 2 256,.tmp 3],[cal lA,cal A1L,cal uJ,cal C90,cal A5I,cal A5H,cal B96]⟩
def A77:=A1o.R
def C3z:=mR A77 A1o (tT []) n [a0] h
def B9Q:=A1o.K Tryz.func88
def A81:=A1o.S
theorem A82:SOk Tryz.prog 88 A81:=B9Q.sok
theorem B8G:E5 A77 A81:=B9Q.flat
def A1n:FD Tryz.prog:=⟨px 0X113121831de3834a3933222016d3121831de02a3e83322224632a2a807868b4488783b3c488783b601637c483a174862321cc01c824881de1c72d912a6801e38691bc2d16131ac3832e39181876215262231a8231de12a062df6121a112a1032a3e87e019596321ac44883819496321ac44881f397119621337806c4112e6802a1d69681914916311ac49696301ac44881a391842132102a2d862ec32122,[.c (.b true)],[.eqA true (E3Q 256 (.i .u8)) (.t 29) (.t 30)],[.cellN 2 3,.tmp 3],[cal A5H,cal C9Z,cal vC,cal A82]⟩
def A76:=A1n.R
def C3y:=mR A76 A1n (tT []) n [a0] h
def B9P:=A1n.K Tryz.func40
def A8Z:=A1n.S
theorem A80:SOk Tryz.prog 40 A8Z:=B9P.sok
theorem B8F:E5 A76 A8Z:=B9P.flat
end
noncomputable section
variable (n m m2:Nat) (a0 a1 x3 x6 x7:Val) (h:A6)
def A4R:FD Tryz.prog:=⟨px 0X15011012101102,[],[],[.tmp 0],[]⟩
def C3k:=A4R.R
def C61:=mR C3k A4R (tT []) n [] h
def C2S:=A4R.K Tryz.func56
def B3y:=A4R.S
theorem A2X:SOk Tryz.prog 56 B3y:=C2S.sok
theorem C11:E5 C3k B3y:=C2S.flat
def B0D:FD Tryz.prog:=⟨px 0X12c211627c6101ac433842123062ec2112,[.c (.b false)],[],[.tmp 2],[cal lA]⟩
def B7t:=B0D.R
def C9K:=mR B7t B0D (tT []) n [a0] h
def C8c:=B0D.K Tryz.func118
def B8g:=B0D.S
theorem A5C:SOk Tryz.prog 118 B8g:=C8c.sok
theorem C33:E5 B7t B8g:=C8c.flat
def xY:FD Tryz.prog:=⟨px 0X15c0148214961a7c61c144c5607c0171ad601932230110121232222462bc6101ac433836122113101062ec3112,[],[],[.tmp 2,.tmp 3],[cal A5C,cal A2X]⟩
def A46:=xY.R
def C1p:=mR A46 xY (tT []) n [a0] h
def B4Q:=xY.K Tryz.func53
def A5A:=xY.S
theorem wL:SOk Tryz.prog 53 A5A:=B4Q.sok
theorem B5y:E5 A46 A5A:=B4Q.flat
def A1k:FD Tryz.prog:=⟨px 0X1682161a07c3e03e1a142124c0483112a6801e18693c516101ac43639743221062ec2112,[],[],[.tmp 2],[cal wL]⟩
def A7V:=A1k.R
def C3j:=mR A7V A1k (tT []) n [a0] h
def B9E:=A1k.K Tryz.func93
def A1J:=A1k.S
theorem A0q:SOk Tryz.prog 93 A1J:=B9E.sok
theorem B8e:E5 A7V A1J:=B9E.flat
def sF:FD Tryz.prog:=⟨px 0X17c216a1f12212787153e01e7d2186c3161e13cc61011113fc3e03e1a15184c411a02764342157633307024763331a617c1187634276330605106101ac4353937633231313b81312213b862ec2112,[],[],[.tmp 2],[cal A0q]⟩
def C3l:=sF.R
def C0P:AtH:=sF.lj 0 n [m] [x3,x6,x7]
def C4r:=tT [⟨2,3,C0P⟩]
def C62:=mR C3l sF C4r n [a0] h
def A9U:=mL sF C4r 0 n [m] [x3,x6,x7] h
def C2T:=sF.K Tryz.func44
def B3z:=sF.S
theorem B1S:SOk Tryz.prog 44 B3z:=C2T.sok
theorem C32:qT C3l B3z:=C2T.out
def oY:FD Tryz.prog:=⟨px 0X118841362e2a861e192f7f62f1f15e2f4f42f360361e2a85641f7f41f3606101ac1e3381d412341022ed22122,[.c (.b false)],[],[.tmp 4],[cal A5C]⟩
def A0c:=oY.R
def B48:=mR A0c oY (tT []) n [a0,a1] h
def A7F:=oY.K Tryz.func119
def A0r:=oY.S
theorem B5x:SOk Tryz.prog 119 A0r:=A7F.sok
theorem B1g:E5 A0c A0r:=A7F.flat
def xZ:FD Tryz.prog:=⟨px 0X1701cc01b841496187c5677c4062a07c4961a7c5677c405e2a11b6543218c01887112a6801e28697c1d16111ac6a31e39771220130101413654322462bc61a201ac403e3193941c213221233010141022ed42122,[.c (.b false),.c (.b true)],[],[.tmp 4,.tmp 5,.tmp 6],[cal B5x,cal wL]⟩
def A47:=xZ.R
def C1q:=mR A47 xZ (tT []) n [a0,a1] h
def B4R:=xZ.K Tryz.func54
def A5B:=xZ.S
theorem A6I:SOk Tryz.prog 54 A5B:=B4R.sok
theorem B5z:E5 A47 A5B:=B4R.flat
def tY:FD Tryz.prog:=⟨px 0X119841362e2a861e13b7f63b1f06e3b4f43b360362e2a861e41f7f6111f1af3e31f3b41f3606101ac1e3381f412341022ed22122,[.c (.b false)],[],[.tmp 4],[cal A5C,cal A0q]⟩
def A2w:=tY.R
def B7s:=mR A2w tY (tT []) n [a0,a1] h
def B1v:=tY.K Tryz.func80
def A2W:=tY.S
theorem B8f:SOk Tryz.prog 80 A2W:=B1v.sok
theorem B3x:E5 A2w A2W:=B1v.flat
end
noncomputable section
variable (n m m2:Nat) (a0:Val) (h:A6)
def A4L:FD Tryz.prog:=⟨px 0X129c21364a2a861e16f7f66f1f046f4f61906f7f4961a6f7f66f1f146f4f60362e2a81625b7f496185b7f65b1f145b4f60362a2a81889619497f6491f14494f60362a2a849642f7f62f1f142f4f60362a2a848896191d7f61d1f041d4f60189647c61c044c4a2123062ec2112,[.c (.b false)],[],[.tmp 2],[]⟩
def B2L:=A4L.R
def C6O:=mR B2L A4L (tT []) n [a0] h
def C2E:=A4L.K Tryz.func91
def B3g:=A4L.S
theorem A2T:SOk Tryz.prog 91 B3g:=C2E.sok
theorem C1L:E5 B2L B3g:=C2E.flat
def A4M:FD Tryz.prog:=⟨px 0X11f821611a321ac1c028892889173c5bd42121dc3162e13cc629201ac6111ac06881c01c2e173121ac3162a13cc649201ac61c244c7a29163121883162e13cc619201ac64c861c144c4a1b173122583162e13cc619201ac64c861c044c64ac3b172f162b153141f131b12711310181b18143fd18312213b862ec2112,[.c (.i .u8 101),.c (.i .u8 115),.c (.i .u8 99),.c (.i .u8 104),.c (.i .u8 97),.c (.i .u8 116),.c (.i .u8 49)],[.b2s (.t 23)],[.tmp 2],[cal fZ,cal B5q,cal mN]⟩
def B2M:=A4M.R
def C6P:=mR B2M A4M (tT []) n [a0] h
def C2F:=A4M.K Tryz.func92
def B3h:=A4M.S
theorem C7b:SOk Tryz.prog 92 B3h:=C2F.sok
theorem C3M:qT B2M B3h:=C2F.out
def A4K:FD Tryz.prog:=⟨px 0X173121831de3833d39332220133121831de02a3e83322224673a2a865a2bf61a245a1af05a36135a1af3835a3b6062bc6121ac6a32a391a3b6232622318c231de2a62d96121a112a1032a3e86a019596311ac0019496311ac01c118620325c0584112a6801e1a694c7149696301ac0181742032302a22d922022,[.c (.b false),.c (.b true)],[],[.cellN 2 3,.tmp 3],[cal B1Q,cal pN,cal A2T,cal C7b,cal dO]⟩
def B2K:=A4K.R
def C6N:=mR B2K A4K (tT []) n [a0] h
def C2D:=A4K.K Tryz.func42
def B3f:=A4K.S
theorem C7a:SOk Tryz.prog 42 B3f:=C2D.sok
theorem C1K:E5 B2K B3f:=C2D.flat
end
noncomputable section
variable (n m m2:Nat) (a0 a1 x1 x7 x8 x9:Val) (h:A6)
def A1c:FD Tryz.prog:=⟨px 0X129411412011d4114122461e17c61c1184c49667c19677c42e163b1203011ac415607c4034122419617c42a122b2132212301141141224632e2a861e4387f6381f06a384f438360631e2a8161287f42836062bc6101ac1e3381d2921322123141022ed22122,[.c (.b true)],[],[.tmp 4],[cal A2T]⟩
def A7P:=A1c.R
def C29:=mR A7P A1c (tT []) n [a0,a1] h
def B9t:=A1c.K Tryz.func47
def A8x:=A1c.S
theorem A8y:SOk Tryz.prog 47 A8x:=B9t.sok
theorem B7X:E5 A7P A8x:=B9t.flat
def B0z:FD Tryz.prog:=⟨px 0X118841362e2a861e192f7f62f1f15e2f4f42f360361e2a85641f7f41f3606101ac1e3381d412341022ed22122,[.c (.b false)],[],[.tmp 4],[cal A2T]⟩
def B7n:=B0z.R
def C9E:=mR B7n B0z (tT []) n [a0,a1] h
def C76:=B0z.K Tryz.func173
def B7Y:=B0z.S
theorem C9R:SOk Tryz.prog 173 B7Y:=C76.sok
theorem C3N:E5 B7n B7Y:=C76.flat
def bR:FD Tryz.prog:=⟨px 0X1701d801cc414803c3915654321981915607c4a2913180101c8715607c3c04182449627c6e2d122e191871521a81815607c5e2b131918714215191871411a0702461a17c402e1e132819187152191871431918714060550119187142187231019021871320130101413654322462bc61a201ac404a31a3941d1221133010141022ed42122,[.c (.b false),.c (.b true)],[],[.tmp 4,.tmp 5,.tmp 6],[cal C9R]⟩
def A41:=bR.R
def B18:AtH:=bR.lj 0 n [m] [x1,x7,x8,x9]
def C7B:AtH:=bR.lj 1 n [m] [x1,x7,x8,x9]
def A5N:=tT [⟨2,4,B18⟩,⟨2,4,C7B⟩]
def C1i:=mR A41 bR A5N n [a0,a1] h
def A4f:=mL bR A5N 0 n [m] [x1,x7,x8,x9] h
def A4e:=mJ bR A5N 1 n [m] [x1,x7,x8,x9] h
def B4J:=bR.K Tryz.func106
def A5s:=bR.S
theorem C1M:SOk Tryz.prog 106 A5s:=B4J.sok
theorem B5s:E5 A41 A5s:=B4J.flat
end
end Go.Proofs.YtbnkgnfhgbhblaaGreat
namespace Go.Proofs.YtbnkgnfhgbhblaaGreat
open Go Go.Esc
def R9 (b n:Int):Bool:=decide (16<=b)&&decide (b<=512)&&decide (8<=n)&&decide (n<=128)&&decide (n%8=0)&&decide (2+n/8<b)
theorem N8 {b n:Int}:R9 b n=true↔16<=b/\b<=512/\8<=n/\n<=128/\n%8=0/\2+n/8<b:=by
 unfold R9;simp [and_assoc]
theorem Y9 {b n:Int}:R9 b n=false↔¬ (16<=b/\b<=512/\8<=n/\n<=128/\n%8=0/\2+n/8<b):=by
 rw [<-N8];simp
abbrev D3 (b n m:Int):List Cell:=[.i .i64 b,.i .i64 n,.i .u64 m]
theorem bB {b n m:Int} {h:A6}:A3b [.a (D3 b n m)] h=some (iV (bif R9 b n then 0 else 1),h):=by
 have key:∀ g,∃ g',A2H 0 [.a (D3 b n m)] g=some (iV (bif R9 b n then 0 else 1),g'):=by
  intro g;rw [B7J];have bad:R9 b n=false->(some (iV 1,g++[rT (D3 b n m)]))=some (iV (bif R9 b n then 0 else 1),g++[rT (D3 b n m)]):=λh=>by rw [h];rfl
  by_cases c1:b<16
  ·rw [Y9.2 (by omega)];exact ⟨_,by simp only [esc,esh,Nat.reduceAdd,Nat.reduceMul,Nat.reduceLT,c1,U3]<;>rfl⟩
  ·by_cases c2:512<b
   ·rw [Y9.2 (by omega)];exact ⟨_,by simp only [esc,esh,Nat.reduceAdd,Nat.reduceMul,Nat.reduceLT,c1,c2,U3]<;>rfl⟩
   ·by_cases c3:n<8
    ·rw [Y9.2 (by omega)];exact ⟨_,by simp only [esc,esh,Nat.reduceAdd,Nat.reduceMul,Nat.reduceLT,c1,c2,c3,U3,cJ]<;>rfl⟩
    ·by_cases c4:128<n
     ·rw [Y9.2 (by omega)];exact ⟨_,by simp only [esc,esh,Nat.reduceAdd,Nat.reduceMul,Nat.reduceLT,c1,c2,c3,c4,U3,cJ]<;>rfl⟩
     ·have e1:=B2B (a:=n) (b:=8) (k:=.i64) (by omega) (by omega);by_cases c5:n%8=0
      ·have e2:=A6g (a:=n) (b:=8) (by omega) (by omega) (by omega);have e3:IntKind.wrap .i64 (2+n/8)=2+n/8:=wrap_i64 (by omega) (by omega);by_cases c6:b<=2+n/8
       ·rw [Y9.2 (by omega)];exact ⟨_,by simp only [esc,esh,Nat.reduceAdd,Nat.reduceMul,Nat.reduceLT,c1,c2,c3,c4,e1,c5,e2,e3,c6,U3,cJ]<;>rfl⟩
       ·rw [N8.2 (by omega)];exact ⟨_,by simp only [esc,esh,Nat.reduceAdd,Nat.reduceMul,Nat.reduceLT,c1,c2,c3,c4,e1,c5,e2,e3,c6,U3,cJ]<;>rfl⟩
      ·rw [Y9.2 (by omega)];exact ⟨_,by simp only [esc,esh,Nat.reduceAdd,Nat.reduceMul,Nat.reduceLT,c1,c2,c3,c4,e1,c5,U3,cJ]<;>rfl⟩
 obtain ⟨g',e⟩:=key (ro h);exact B3M e (by simp)
theorem V8 {b n m:Int} {h:A6}:B3g [.a (D3 b n m)] h=some (bV (R9 b n),h):=by
 have key:∀ g,∃ g',B2L 0 [.a (D3 b n m)] g=some (bV (R9 b n),g'):=by
  intro g;rw [C6O];by_cases c1:16<=b
  ·by_cases c2:b<=512
   ·by_cases c3:8<=n
    ·by_cases c4:n<=128
     ·have e1:=B2B (a:=n) (b:=8) (k:=.i64) (by omega) (by omega);by_cases c5:n%8=0
      ·have e2:=A6g (a:=n) (b:=8) (by omega) (by omega) (by omega);have e3:IntKind.wrap .i64 (2+n/8)=2+n/8:=wrap_i64 (by omega) (by omega);by_cases c6:2+n/8<b
       ·rw [N8.2 (by omega)];exact ⟨_,by simp only [esc,esh,Nat.reduceAdd,Nat.reduceMul,Nat.reduceLT,c1,c2,c3,c4,e1,c5,e2,e3,c6]<;>rfl⟩
       ·rw [Y9.2 (by omega)];exact ⟨_,by simp only [esc,esh,Nat.reduceAdd,Nat.reduceMul,Nat.reduceLT,c1,c2,c3,c4,e1,c5,e2,e3,c6]<;>rfl⟩
      ·rw [Y9.2 (by omega)];exact ⟨_,by simp only [esc,esh,Nat.reduceAdd,Nat.reduceMul,Nat.reduceLT,c1,c2,c3,c4,e1,c5]<;>rfl⟩
     ·rw [Y9.2 (by omega)];exact ⟨_,by simp only [esc,esh,Nat.reduceAdd,Nat.reduceMul,Nat.reduceLT,c1,c2,c3,c4]<;>rfl⟩
    ·rw [Y9.2 (by omega)];exact ⟨_,by simp only [esc,esh,Nat.reduceAdd,Nat.reduceMul,Nat.reduceLT,c1,c2,c3]<;>rfl⟩
   ·rw [Y9.2 (by omega)];exact ⟨_,by simp only [esc,esh,Nat.reduceAdd,Nat.reduceMul,Nat.reduceLT,c1,c2]<;>rfl⟩
  ·rw [Y9.2 (by omega)];exact ⟨_,by simp only [esc,esh,Nat.reduceAdd,Nat.reduceMul,Nat.reduceLT,c1]<;>rfl⟩
 obtain ⟨g',e⟩:=key (ro h);exact C1L e (by simp)
theorem jY {b n m:Int} {h:A6}:B8g [.a (D3 b n m)] h=some (bV (R9 b n),h):=by
 have key:∀ g,∃ g',B7t 0 [.a (D3 b n m)] g=some (bV (R9 b n),g'):=by
  intro g;rw [C9K];cases c:R9 b n with
  | true=>exact ⟨_,by simp only [esc,esh,Nat.reduceAdd,Nat.reduceMul,Nat.reduceLT,bB,c]<;>rfl⟩
  | false=>exact ⟨_,by simp only [esc,esh,Nat.reduceAdd,Nat.reduceMul,Nat.reduceLT,bB,c,E4V]<;>rfl⟩
 obtain ⟨g',e⟩:=key (ro h);exact C33 e (by simp)
theorem vP {h:A6}:B3y [] h=some (iV 1,h) :=
 C11 (n:=0) (h2:=ro h) (by rw [C61]) rfl
def A02 (b n:Int):Int:=bif R9 b n then 2 else 0
def A7A (b n:Int):Int:=bif R9 b n then n/8 else 0
def jU (b n:Int):Int:=A02 b n+A7A b n
theorem A3s {b n m:Int} {h:A6}:A5A [.a (D3 b n m)] h=some (.t [.c (.i .i64 (A02 b n)),.c (.i .i64 (A7A b n))],h):=by
 have key:∀ g,∃ g',A46 0 [.a (D3 b n m)] g=some (.t [.c (.i .i64 (A02 b n)),.c (.i .i64 (A7A b n))],g'):=by
  intro g;rw [C1p];unfold A02 A7A;cases c:R9 b n with
  | true =>
   have c':=N8.1 c;have e2:=A6g (a:=n) (b:=8) (by omega) (by omega) (by omega);have e3:IntKind.wrap .i64 (1+1)=2:=wrap_i64 (by omega) (by omega);exact ⟨_,by simp only [esc,esh,Nat.reduceAdd,Nat.reduceMul,Nat.reduceLT,jY,c,vP,e2,e3]<;>rfl⟩
  | false=>exact ⟨_,by simp only [esc,esh,Nat.reduceAdd,Nat.reduceMul,Nat.reduceLT,jY,c]<;>rfl⟩
 obtain ⟨g',e⟩:=key (ro h);exact B5y e (by simp)
theorem A0I {b n:Int}:0<=jU b n/\jU b n<=18:=by
 unfold jU A02 A7A;cases c:R9 b n with
 | true=>have:=N8.1 c;simp only [cond_true];omega
 | false=>simp only [cond_false];omega
theorem yT {b n m:Int} {h:A6}:A1J [.a (D3 b n m)] h=some (iV (jU b n),h):=by
 have key:∀ g,∃ g',A7V 0 [.a (D3 b n m)] g=some (iV (jU b n),g'):=by
  intro g;rw [C3j];have hr:=A0I (b:=b) (n:=n);have e3:IntKind.wrap .i64 (A02 b n+A7A b n)=jU b n:=wrap_i64 (by unfold jU at hr;omega) (by unfold jU at hr;omega);exact ⟨_,by simp only [esc,esh,Nat.reduceAdd,Nat.reduceMul,Nat.reduceLT,A3s,e3]<;>rfl⟩
 obtain ⟨g',e⟩:=key (ro h);exact B8e e (by simp)
def S8 (b n i:Int):Bool:=R9 b n&&decide (1<=i)&&decide (i<=n)
def hJ (b n i:Int):Bool:=R9 b n&&decide (jU b n<=i)&&decide (i<b)
theorem A62 {b n m i:Int} {h:A6}:A0r [.a (D3 b n m),iV i] h=some (bV (S8 b n i),h):=by
 have key:∀ g,∃ g',A0c 0 [.a (D3 b n m),iV i] g=some (bV (S8 b n i),g'):=by
  intro g;rw [B48];unfold S8;cases c:R9 b n with
  | true =>
   by_cases c1:1<=i
   ·exact ⟨_,by simp only [esc,esh,Nat.reduceAdd,Nat.reduceMul,Nat.reduceLT,jY,c,c1]<;>rfl⟩
   ·exact ⟨_,by simp only [esc,esh,Nat.reduceAdd,Nat.reduceMul,Nat.reduceLT,jY,c,c1]<;>rfl⟩
  | false=>exact ⟨_,by simp only [esc,esh,Nat.reduceAdd,Nat.reduceMul,Nat.reduceLT,jY,c]<;>rfl⟩
 obtain ⟨g',e⟩:=key (ro h);exact B1g e (by simp)
theorem C03 {b n m i:Int} {h:A6}:B7Y [.a (D3 b n m),iV i] h=some (bV (S8 b n i),h):=by
 have key:∀ g,∃ g',B7n 0 [.a (D3 b n m),iV i] g=some (bV (S8 b n i),g'):=by
  intro g;rw [C9E];unfold S8;cases c:R9 b n with
  | true =>
   by_cases c1:1<=i
   ·exact ⟨_,by simp only [esc,esh,Nat.reduceAdd,Nat.reduceMul,Nat.reduceLT,V8,c,c1]<;>rfl⟩
   ·exact ⟨_,by simp only [esc,esh,Nat.reduceAdd,Nat.reduceMul,Nat.reduceLT,V8,c,c1]<;>rfl⟩
  | false=>exact ⟨_,by simp only [esc,esh,Nat.reduceAdd,Nat.reduceMul,Nat.reduceLT,V8,c]<;>rfl⟩
 obtain ⟨g',e⟩:=key (ro h);exact C3N e (by simp)
theorem C5m {b n m i:Int} {h:A6}:A2W [.a (D3 b n m),iV i] h=some (bV (hJ b n i),h):=by
 have key:∀ g,∃ g',A2w 0 [.a (D3 b n m),iV i] g=some (bV (hJ b n i),g'):=by
  intro g;rw [B7s];unfold hJ;cases c:R9 b n with
  | true =>
   by_cases c1:jU b n<=i
   ·exact ⟨_,by simp only [esc,esh,Nat.reduceAdd,Nat.reduceMul,Nat.reduceLT,jY,yT,c,c1]<;>rfl⟩
   ·exact ⟨_,by simp only [esc,esh,Nat.reduceAdd,Nat.reduceMul,Nat.reduceLT,jY,yT,c,c1]<;>rfl⟩
  | false=>exact ⟨_,by simp only [esc,esh,Nat.reduceAdd,Nat.reduceMul,Nat.reduceLT,jY,c]<;>rfl⟩
 obtain ⟨g',e⟩:=key (ro h);exact B3x e (by simp)
def dZ (b n i:Int):Int:=bif S8 b n i then 2+(i-1)/8 else 0
def fW (b n i:Int):Int:=bif S8 b n i then (i-1)%8 else 0
theorem A2a {b n i:Int}:S8 b n i=true↔R9 b n=true/\1<=i/\i<=n:=by
 unfold S8;simp [and_assoc]
theorem D2f {b n i:Int}:hJ b n i=true↔R9 b n=true/\jU b n<=i/\i<b:=by
 unfold hJ;simp [and_assoc]
theorem A3t {b n m i:Int} {h:A6}:A5B [.a (D3 b n m),iV i] h=some (.t [.c (.i .i64 (dZ b n i)),.c (.i .i64 (fW b n i)),.c (.b (S8 b n i))],h):=by
 have key:∀ g,∃ g',A47 0 [.a (D3 b n m),iV i] g=some (.t [.c (.i .i64 (dZ b n i)),.c (.i .i64 (fW b n i)),.c (.b (S8 b n i))],g'):=by
  intro g;rw [C1q];unfold dZ fW;cases c:S8 b n i with
  | true =>
   obtain ⟨c1,c2,c3⟩:=A2a.1 c;have c':=N8.1 c1;have e0:A02 b n=2:=by unfold A02;rw [c1];rfl
   have e1:IntKind.wrap .i64 (i-1)=i-1:=wrap_i64 (by omega) (by omega);have e2:=A6g (a:=i-1) (b:=8) (by omega) (by omega) (by omega);have e3:IntKind.wrap .i64 (2+(i-1)/8)=2+(i-1)/8:=wrap_i64 (by omega) (by omega);have e4:=B2B (a:=i-1) (b:=8) (k:=.i64) (by omega) (by omega);exact ⟨_,by simp only [esc,esh,Nat.reduceAdd,Nat.reduceMul,Nat.reduceLT,A62,c,A3s,e0,e1,e2,e3,e4]<;>rfl⟩
  | false=>exact ⟨_,by simp only [esc,esh,Nat.reduceAdd,Nat.reduceMul,Nat.reduceLT,A62,c]<;>rfl⟩
 obtain ⟨g',e⟩:=key (ro h);exact B5z e (by simp)
theorem D6n {b n:Int}:0<=A02 b n/\A02 b n<=2/\0<=A7A b n/\A7A b n<=16:=by
 unfold A02 A7A;cases c:R9 b n with
 | true=>have:=N8.1 c;simp only [cond_true];omega
 | false=>simp only [cond_false];omega
def upto (d:Nat):List Int:=(E4m d).map λ(i:Nat)=>(i:Int)
theorem upto_length {d:Nat}:(upto d).length=d:=by simp [upto]
theorem upto_succ {d:Nat}:upto (d+1)=upto d++[(d:Int)]:=by simp [upto,List.range_succ]
theorem B2h {g:A6} {D k:Nat} (hD:D<=18):∀ d i m h id,i+d=D->d<m->Low g.length g h->g.length<=id->rd h id=rT (encI (upto i)) ->
  ∃ v' h',C0P k m (sV id 0 i 1) (iV D) (iV i) h=some (v',h')/\Out g.length h' v' 1 D (encI (upto D))
 | d,i,0,h,id,_,hm,_,_,_=>by omega
 | 0,i,m+1,h,id,hi,hm,hlow,hb,hr=>by
  have e:i=D:=by omega
  subst e;have h1':¬ (i:Int)<i:=by omega
  rw [A9U];exact ⟨_,_,by simp only [esc,h1']<;>rfl,by rw [A8,upto_length];omega,id,rfl,hb,hr⟩
 | d+1,i,m+1,h,id,hi,hm,hlow,hb,hr=>by
  obtain ⟨h',a1,a2,a3,a4,a5⟩:=push (ys:=[.i .i64 (i:Int)]) (sz:=1) (n:=i) hlow hr (by rw [A8,upto_length];omega) hb rfl (by omega) (by omega);have e4:encI (upto i)++[Cell.i .i64 (i:Int)]=encI (upto (i+1)):=by rw [upto_succ,A10];rfl
  rw [e4] at a2;obtain ⟨v',h'',b1,b2⟩:=B2h (k:=k) hD d (i+1) m h' (h.length+1) (by omega) (by omega) a3 a4 a2;have h1':(i:Int)<D:=by omega
  have e5:D9 [o0] [(0,1,iV (i:Int))]=some [.i .i64 (i:Int)]:=rfl;rw [A9U];exact ⟨v',h'',by simp only [esc,h1',e5,a1,C6 (show i+1<9223372036854775808 by omega)];exact b1,b2⟩
theorem C0O {b n m:Int} {h:A6}:B3z [.a (D3 b n m)] h=some (sV h.length 0 (jU b n).toNat 1,h++[rT (encI (upto (jU b n).toNat))]):=by
 have hr:=A0I (b:=b) (n:=n);obtain ⟨v',h',e,ho⟩:=B2h (g:=ro h) (D:=(jU b n).toNat) (k:=(jU b n).toNat+1) (by omega) (jU b n).toNat 0 ((jU b n).toNat+1) (ro h++[rT (D3 b n m),rT [],rT []]) ((ro h).length+2) (by omega) (by omega) ((Low.refl (E3T _)).new _) (by omega) (by simp;rfl);refine C32 (n:=(jU b n).toNat+1) (v:=v') (h2:=h') ?_ (by simpa [E7] using ho) (by simp);rw [C62];rw [show (((jU b n).toNat:Nat):Int)=jU b n by omega] at e;simp only [esc,esh,Nat.reduceAdd,Nat.reduceMul,Nat.reduceLT,yT];exact e
theorem A4E {h:A6} {I k:Nat} (hI:1<=I) (hI2:I<=128):∀ d i m:Nat,i+d=I->d<m->1<=i ->
  B18 k m (iV I) (iV ((2+(i-1)/8:Nat):Int)) (iV (((i-1)%8:Nat):Int)) (iV i) h=some (.t [.c (.i .i64 ((2+(I-1)/8:Nat):Int)),.c (.i .i64 (((I-1)%8:Nat):Int)),.c (.b true)],h)
 | d,i,0,_,hm,_=>by omega
 | 0,i,m+1,hi,hm,h1=>by
  have e:i=I:=by omega
  subst e;have c0:¬ (i:Int)<i:=by omega
  rw [A4f];simp only [esc,c0]
 | d+1,i,m+1,hi,hm,h1=>by
  have ih:=A4E (h:=h) (k:=k) hI hI2 d (i+1) m (by omega) (by omega) (by omega);have c0:(i:Int)<I:=by omega
  rw [A4f];by_cases c1:(i-1)%8+1=8
  ·have c1':(((i-1)%8+1:Nat):Int)=8:=by omega
   have e1:2+(i+1-1)/8=2+(i-1)/8+1:=by omega
   have e2:(i+1-1)%8=0:=by omega
   rw [e1,e2] at ih;simp only [esc,c0,C6 (show (i-1)%8+1<9223372036854775808 by omega),c1',C6 (show 2+(i-1)/8+1<9223372036854775808 by omega),A4e,C6 (show i+1<9223372036854775808 by omega)];exact ih
  ·have c1':¬ (((i-1)%8+1:Nat):Int)=8:=by omega
   have e1:2+(i+1-1)/8=2+(i-1)/8:=by omega
   have e2:(i+1-1)%8=(i-1)%8+1:=by omega
   rw [e1,e2] at ih;simp only [esc,c0,C6 (show (i-1)%8+1<9223372036854775808 by omega),c1',A4e,C6 (show i+1<9223372036854775808 by omega)];exact ih
theorem C6i {b n m i:Int} {h:A6}:A5s [.a (D3 b n m),iV i] h=some (.t [.c (.i .i64 (dZ b n i)),.c (.i .i64 (fW b n i)),.c (.b (S8 b n i))],h):=by
 have key:∀ g,∃ g',A41 (i.toNat+1) [.a (D3 b n m),iV i] g=some (.t [.c (.i .i64 (dZ b n i)),.c (.i .i64 (fW b n i)),.c (.b (S8 b n i))],g'):=by
  intro g;rw [C1i];unfold dZ fW;cases c:S8 b n i with
  | true =>
   obtain ⟨c1,c2,c3⟩:=A2a.1 c;have c':=N8.1 c1;have:=A4E (h:=g++[rT (D3 b n m)]) (I:=i.toNat) (k:=i.toNat+1) (by omega) (by omega) (i.toNat-1) 1 (i.toNat+1) (by omega) (by omega) (by omega);rw [show ((i.toNat:Nat):Int)=i by omega,show ((2+(1-1)/8:Nat):Int)=2 from rfl,show (((1-1)%8:Nat):Int)=0 from rfl,show ((1:Nat):Int)=1 from rfl,show ((2+(i.toNat-1)/8:Nat):Int)=2+(i-1)/8 by omega,show (((i.toNat-1)%8:Nat):Int)=(i-1)%8 by omega] at this;exact ⟨_,by simp only [esc,esh,Nat.reduceAdd,Nat.reduceMul,Nat.reduceLT,C03,c];exact this⟩
  | false=>exact ⟨_,by simp only [esc,esh,Nat.reduceAdd,Nat.reduceMul,Nat.reduceLT,C03,c]<;>rfl⟩
 obtain ⟨g',e⟩:=key (ro h);exact B5s e (by simp)
def A9g (b n no:Int):Int:=if R9 b n=true/\0<=no/\no<b then (if no<2 then no+1 else if (no-2)*8<n then 3 else 4) else 0
theorem B2z {b n m no:Int} {h:A6}:A8x [.a (D3 b n m),iV no] h=some (iV (A9g b n no),h):=by
 have key:∀ g,∃ g',A7P 0 [.a (D3 b n m),iV no] g=some (iV (A9g b n no),g'):=by
  intro g;rw [C29];unfold A9g;cases c:R9 b n with
  | true =>
   have c':=N8.1 c;by_cases c1:no<0
   ·rw [if_neg (by omega)];exact ⟨_,by simp only [esc,esh,Nat.reduceAdd,Nat.reduceMul,Nat.reduceLT,V8,c,c1]<;>rfl⟩
   ·by_cases c2:b<=no
    ·rw [if_neg (by omega)];exact ⟨_,by simp only [esc,esh,Nat.reduceAdd,Nat.reduceMul,Nat.reduceLT,V8,c,c1,c2]<;>rfl⟩
    ·rw [if_pos ⟨rfl,by omega,by omega⟩];by_cases c3:no<2
     ·rw [if_pos c3];have e1:IntKind.wrap .i64 (no+1)=no+1:=wrap_i64 (by omega) (by omega);exact ⟨_,by simp only [esc,esh,Nat.reduceAdd,Nat.reduceMul,Nat.reduceLT,V8,c,c1,c2,c3,e1]<;>rfl⟩
     ·rw [if_neg c3];have e1:IntKind.wrap .i64 (no-2)=no-2:=wrap_i64 (by omega) (by omega);have e2:IntKind.wrap .i64 ((no-2)*8)=(no-2)*8:=wrap_i64 (by omega) (by omega);by_cases c4:(no-2)*8<n
      ·rw [if_pos c4];exact ⟨_,by simp only [esc,esh,Nat.reduceAdd,Nat.reduceMul,Nat.reduceLT,V8,c,c1,c2,c3,e1,e2,c4]<;>rfl⟩
      ·rw [if_neg c4];exact ⟨_,by simp only [esc,esh,Nat.reduceAdd,Nat.reduceMul,Nat.reduceLT,V8,c,c1,c2,c3,e1,e2,c4]<;>rfl⟩
  | false =>
   rw [if_neg (by simp)];exact ⟨_,by simp only [esc,esh,Nat.reduceAdd,Nat.reduceMul,Nat.reduceLT,V8,c]<;>rfl⟩
 obtain ⟨g',e⟩:=key (ro h);exact B7X e (by simp)
theorem B0v (v:Int):0<=IntKind.wrap .u64 v/\IntKind.wrap .u64 v<18446744073709551616:=by
 have hw:IntKind.wrap .u64 v=v%18446744073709551616:=by
  simp only [IntKind.wrap,IntKind.bits,IntKind.signed,E3W];rfl
 rw [hw];exact ⟨Int.emod_nonneg _ (by omega),Int.emod_lt_of_pos _ (by omega)⟩
theorem cU {w:Nat} {v:Int} {h:A6} (hw:w<=8):yG [iV w,.c (.i .u64 (IntKind.wrap .u64 v))] h=some (sV h.length 0 w 1,h++[rT (A5 (A9 w v))]):=by
 rw [A0W hw (B0v v).1 (B0v v).2,D1C hw]
theorem D1l {h:A6} {id off len sz:Nat} {cs:List Cell} (hr:rd h id=rT cs) (hn:0<len):xJ h (sV id off len sz)=some (sV id off len sz):=by
 simp [xJ,hr,hn]
def magicB:List UInt8:=[101,115,99,104,101,97,116,49]
def bL (b n m:Int):List UInt8:=magicB++A9 2 b++A9 2 n++A9 8 m
def iE (b n m:Int):List UInt8:=N5 256 (bL b n m++A9 4 (wZ (bL b n m):Nat))
theorem R7 {b n m:Int}:(bL b n m).length=20:=by simp [bL,magicB]
theorem T2 {b n m:Int}:(iE b n m).length=256:=F5 (by rw [E3S,R7,O6];omega)
theorem D7B {l xs:List UInt8} {a:Nat} (h1:l.length<=a) (h2:a+xs.length<=256) (h3:a<256):A7w (N5 256 l) a xs=N5 256 (l++zeros (a-l.length)++xs):=by
 unfold A7w;rw [if_pos (by omega)];simp only [E38];rw [E3Y (by omega),B0g h1 h2]
theorem B68 {b n m:Int} {h:A6} (hm0:0<=m) (hm1:m<18446744073709551616) :
  A81 [.a (D3 b n m)] h=some (.t [.a (A5 (bif R9 b n then iE b n m else zeros 256)),.c (.i .i64 (bif R9 b n then 0 else 1))],h):=by
 have key:∀ g,∃ g',A77 0 [.a (D3 b n m)] g=some (.t [.a (A5 (bif R9 b n then iE b n m else zeros 256)),.c (.i .i64 (bif R9 b n then 0 else 1))],g'):=by
  intro g;have hz:(A5 (zeros 256)).length=256:=by rw [A4];exact zeros_length
  have haf:D9 (E3Q 256 (Cell.i .u8 0)) []=some (E3Q 256 (Cell.i .u8 0)):=rfl;rw [I3] at haf;rw [C3z,I3];cases c:R9 b n with
  | false =>
   simp only [cond_false];generalize zeros 256=z at *;exact ⟨_,by simp only [esc,esh,Nat.reduceAdd,Nat.reduceMul,Nat.reduceLT,bB,c,haf,hz,E4V]<;>rfl⟩
  | true =>
   simp only [cond_true];have e7:D9 [Cell.i .u8 0,.i .u8 0,.i .u8 0,.i .u8 0,.i .u8 0,.i .u8 0,.i .u8 0,.i .u8 0] [(0,1,.c (.i .u8 101)),(1,1,.c (.i .u8 115)),(2,1,.c (.i .u8 99)),(3,1,.c (.i .u8 104)),(4,1,.c (.i .u8 101)),(5,1,.c (.i .u8 97)),(6,1,.c (.i .u8 116)),(7,1,.c (.i .u8 49))]=some (A5 magicB):=rfl;have hmk:=D1l (h:=g++[rT (D3 b n m),rT (A5 (zeros 256)),rT (A5 magicB)]) (id:=g.length+2) (off:=0) (len:=8) (sz:=1) (cs:=A5 magicB) (by simp) (by omega);have ho:=B0X (h:=g++[rT (D3 b n m),rT (A5 (zeros 256)),rT (A5 magicB)]) (v:=sV (g.length+2) 0 8 1) (nv:=8) (data:=magicB) (Has.tr (by simp) (by simp [A4,magicB]) (F6 _)) (by decide);rw [C52 (by decide)] at ho;have lm:magicB.length=8:=rfl;have w1:=λh=>X4 (h:=h) (l:=N5 256 magicB) (F5 (by decide)) (a:=8) (w:=2) (v:=b)
   have e1:=gQ (l:=magicB) (a:=8) (w:=2) (v:=b) (by decide) (by omega) (by omega) (by omega);simp only [lm,E4y,show zeros 0=[] from rfl,E4f,E4j] at e1;simp only [e1] at w1;have l1:(magicB++A9 2 b).length=10:=by simp [lm]
   have w2:=λh=>X4 (h:=h) (l:=N5 256 (magicB++A9 2 b)) (F5 (by omega)) (a:=10) (w:=2) (v:=n)
   have e2:=gQ (l:=magicB++A9 2 b) (a:=10) (w:=2) (v:=n) (by omega) (by omega) (by omega) (by omega);simp only [l1,E4y,show zeros 0=[] from rfl,E4f,E4j] at e2;simp only [e2] at w2;have l2:(magicB++A9 2 b++A9 2 n).length=12:=by simp [lm]
   have L0:(A5 (N5 256 magicB)).length=256:=by rw [A4,F5 (by decide)]
   have L1:(A5 (N5 256 (magicB++A9 2 b))).length=256:=by rw [A4,F5 (by omega)]
   have L2:(A5 (N5 256 (magicB++A9 2 b++A9 2 n))).length=256:=by rw [A4,F5 (by omega)]
   have L3:(A5 (N5 256 (bL b n m))).length=256:=by rw [A4,F5 (by rw [R7];omega)]
   have L4:(A5 (iE b n m)).length=256:=by rw [A4,T2]
   have mk8:A5P (iV 8) (iV 8)=some 8:=rfl;have hp:=D3I (h:=g++[rT (D3 b n m),rT (A5 (zeros 256)),rT (A5 magicB),rT (A5 (N5 256 (magicB++A9 2 b++A9 2 n))),rT (A5 (zeros 8))]) (x:=sV (g.length+4) 0 8 1) (nv:=8) (l:=zeros 8) (a:=0) (w:=8) (v:=m) (Has.tr (by simp) (by simp [A4]) (F6 _)) (by simp);have ep:B6Y (zeros 8) 0 8 m=some (A9 8 m):=by
    unfold B6Y;rw [if_pos ⟨by omega,by decide⟩];unfold I6;simp [zeros]
   rw [ep] at hp;simp only [E4w,E33,O6] at hp;have hl:=B4l (h:=g++[rT (D3 b n m),rT (A5 (zeros 256)),rT (A5 magicB),rT (A5 (N5 256 (magicB++A9 2 b++A9 2 n))),rT (A5 (zeros 8)),rT (A5 (A9 8 m))]) (v:=sV (g.length+5) 0 8 1) (nv:=8) (data:=A9 8 m) (l:=N5 256 (magicB++A9 2 b++A9 2 n)) (a:=12) (Has.tr (by simp) (by simp [A4]) (F6 _)) (F5 (by omega)) (by simp);have e3:=D7B (l:=magicB++A9 2 b++A9 2 n) (xs:=A9 8 m) (a:=12) (by omega) (by simp) (by omega);simp only [l2,E4y,show zeros 0=[] from rfl,E4f,E4j] at e3;rw [e3] at hl;have hc:=λh=>B4k (h:=h) (l:=N5 256 (bL b n m)) (F5 (by rw [R7];omega)) (a:=0) (n:=20)
   have e4:bI (N5 256 (bL b n m)) 0 20=bL b n m:=by
    unfold bI N5;rw [if_pos (by omega)];simp only [Int.toNat_zero,E39];exact List.take_left' R7
   simp only [e4,R7] at hc;have E0V:=(Has.tr (h:=g++[rT (D3 b n m),rT (A5 (zeros 256)),rT (A5 magicB),rT (A5 (N5 256 (bL b n m))),rT (A5 (zeros 8)),rT (A5 (A9 8 m)),rT (A5 (bL b n m))]) (id:=g.length+6) (sz:=1) (n:=20) (cs:=A5 (bL b n m)) (by simp) (by rw [A4,R7]) (F6 _)).str;have hmx:=λh=>C87 (s:=bL b n m) (h:=h) (by rw [R7];omega)
   have E24:=C2u (s:=bL b n m);have e5:IntKind.wrap .i64 ((wZ (bL b n m):Nat):Int)=(wZ (bL b n m):Nat):=wrap_i64 (by omega) (by omega);have w3:=λh=>X4 (h:=h) (l:=N5 256 (bL b n m)) (F5 (by rw [R7];omega)) (a:=20) (w:=4) (v:=(wZ (bL b n m):Nat))
   have e6:=gQ (l:=bL b n m) (a:=20) (w:=4) (v:=(wZ (bL b n m):Nat)) (by rw [R7];omega) (by omega) (by omega) (by omega);simp only [R7,E4y,show zeros 0=[] from rfl,E4f,E4j] at e6;simp only [e6] at w3;have eS:magicB++A9 2 b++A9 2 n++A9 8 m=bL b n m:=rfl;rw [eS] at hl;have rz:=tO 8;change ∀ h,A5J [_,_,_,_] h=some (.a (A5 (iE b n m)),h) at w3;generalize iE b n m=SB at *;generalize N5 256 magicB=P0 at *;generalize N5 256 (magicB++A9 2 b)=P1 at *;generalize N5 256 (magicB++A9 2 b++A9 2 n)=P2 at *;generalize N5 256 (bL b n m)=P3 at *;simp only [esc] at hp;generalize zeros 256=z at *;generalize zeros 8=z8 at *;exact ⟨_,by simp only [esc,esh,Nat.reduceAdd,Nat.reduceMul,Nat.reduceLT,bB,c,e7,hmk,ho,hz,L0,w1,L1,w2,L2,mk8,rz,hp,hl,L3,hc,E0V,hmx,e5,w3,L4]<;>rfl⟩
 obtain ⟨g',e⟩:=key (ro h);exact B8G e (by simp)
theorem B51 {b:List UInt8} {a w:Nat} (hb:b.length=256) (h1:a+w<=256) (hw:1<=w) (hw4:w<=4):((atN b a w:Nat):Int)=fieldN b a w:=by
 unfold atN fieldN;rw [if_pos ⟨by omega,N0.2 (by omega)⟩];simp only [E38]
theorem D7k {b:List UInt8} (hb:b.length=256):C5o (bI b 12 8) 0 8=some (le ((b.drop 12).take 8)):=by
 have hc:bI b 12 8=(b.drop 12).take 8:=by
  unfold bI;rw [if_pos (by omega)];rfl
 have hl:((b.drop 12).take 8).length=8:=by simp;omega
 unfold C5o;rw [hc,hl,if_pos ⟨by omega,by decide⟩];simp only [Int.toNat_zero,E39];rw [E3Y (by rw [hl];decide)]
def okS (b:List UInt8):Bool:=R9 (fieldN b 8 2) (fieldN b 10 2)&&decide (iE (fieldN b 8 2) (fieldN b 10 2) (fieldN b 12 8)=b)
def B88 (b:List UInt8):List Cell:=bif okS b then D3 (fieldN b 8 2) (fieldN b 10 2) (fieldN b 12 8) else D3 0 0 0
theorem yQ (b:List UInt8):0<=fieldN b 12 8/\fieldN b 12 8<18446744073709551616:=by
 unfold fieldN;have h1:=C0V ((b.drop 12).take 8);have h2:((b.drop 12).take 8).length<=8:=by simp;omega
 have h3:=tM h2;have h4:(256:Nat) ^ 8=18446744073709551616:=by decide
 omega
theorem A6p {b:List UInt8} {h:A6} (hb:b.length=256):A8Z [.a (A5 b)] h=some (.t [.a (B88 b),.c (.i .i64 (bif okS b then 0 else 13))],h):=by
 have key:∀ g,∃ g',A76 0 [.a (A5 b)] g=some (.t [.a (B88 b),.c (.i .i64 (bif okS b then 0 else 13))],g'):=by
  intro g;have hl:(A5 b).length=256:=by rw [A4,hb]
  have hc:=B4k (h:=g++[rT (A5 b),rT (D3 0 0 0)]) hb (a:=12) (n:=8);have vQ:(bI b 12 8).length=8:=by unfold bI;rw [if_pos (by omega)];simp;omega
  rw [vQ] at hc;have hg:=D3H (h:=g++[rT (A5 b),rT (D3 0 0 0),rT (A5 (bI b 12 8))]) (v:=sV (g.length+2) 0 8 1) (nv:=8) (l:=bI b 12 8) (Has.tr (by simp) (by rw [A4,vQ]) (F6 _)) (a:=0) (w:=8) (by rw [vQ];omega);rw [D7k hb] at hg;simp only [E4w,E33] at hg;have a1:=λh=>lQ (h:=h) hb (a:=8) (w:=2)
  have a2:=λh=>lQ (h:=h) hb (a:=10) (w:=2)
  have f1:=B51 (a:=8) (w:=2) hb (by omega) (by omega) (by omega);have f2:=B51 (a:=10) (w:=2) hb (by omega) (by omega) (by omega);simp only [E4j] at f1 f2;simp only [f1] at a1;simp only [f2] at a2;have e12:((le ((b.drop 12).take 8):Nat):Int)=fieldN b 12 8:=rfl;rw [e12] at hg;have ef:∀ x y z:Int,D9 (D3 0 0 0) [(0,1,iV x),(1,1,iV y),(2,1,.c (.i .u64 z))]=some (D3 x y z):=λ_ _ _=>rfl
  have ef0:D9 (D3 0 0 0) []=some (D3 0 0 0):=rfl;have hp:=λh=>B68 (b:=fieldN b 8 2) (n:=fieldN b 10 2) (m:=fieldN b 12 8) (h:=h) (yQ b).1 (yQ b).2
  have hz:(E3Q 256 (Cell.i .u8 0)).length=256:=E4g;have hS:(A5 (iE (fieldN b 8 2) (fieldN b 10 2) (fieldN b 12 8))).length=256:=by rw [A4,T2]
  have hZ:(A5 (zeros 256)).length=256:=by rw [A4];exact zeros_length
  have hq:=D4j (l:=iE (fieldN b 8 2) (fieldN b 10 2) (fieldN b 12 8)) (m:=b) (n:=256) T2 hb;simp only [esc] at hc;rw [C3y];unfold B88 okS;generalize E3Q 256 (Cell.i .u8 0)=z at *;cases c:R9 (fieldN b 8 2) (fieldN b 10 2) with
  | false =>
   simp only [c,cond_false] at hp;generalize zeros 256=zz at *;exact ⟨_,by simp only [esc,esh,Nat.reduceAdd,Nat.reduceMul,Nat.reduceLT,hl,hc,hg,a1,a2,ef,ef0,hp,hz,hZ,E3W,E4V]<;>rfl⟩
  | true =>
   simp only [c,cond_true] at hp;cases c2:decide (iE (fieldN b 8 2) (fieldN b 10 2) (fieldN b 12 8)=b) with
   | false =>
    rw [c2] at hq;exact ⟨_,by simp only [esc,esh,Nat.reduceAdd,Nat.reduceMul,Nat.reduceLT,hl,hc,hg,a1,a2,ef,ef0,hp,hz,hS,hq,E4O]<;>rfl⟩
   | true =>
    rw [c2] at hq;exact ⟨_,by simp only [esc,esh,Nat.reduceAdd,Nat.reduceMul,Nat.reduceLT,hl,hc,hg,a1,a2,ef,ef0,hp,hz,hS,hq,Bool.and_true]<;>rfl⟩
 obtain ⟨g',e⟩:=key (ro h);refine B8F e ?_;unfold B88;cases okS b<;>simp
end Go.Proofs.YtbnkgnfhgbhblaaGreat
namespace Go.Proofs.YtbnkgnfhgbhblaaGreat
open Go Go.Esc
set_option maxRecDepth 100000
noncomputable section
variable (n m m2:Nat) (a0 a1 a2 x2 x3 x6 x7 x8:Val) (h:A6)
def tV:FD Tryz.prog:=⟨px 0X11b01880682161f1b7c64c8496187c004961a7c01b119432320170301213432322461b1e2a828889641e7f01e3601617c0061a02201370301213012,[.c (.i .u8 0),.c (.b false),.c (.b true),.c (.i .u8 1)],[],[.tmp 2,.tmp 3,.tmp 4],[]⟩
def B1J:=tV.R
def B7j:=mR B1J tV (tT []) n [a0] h
def B1r:=tV.K Tryz.func191
def A2R:=tV.S
theorem B7N:SOk Tryz.prog 191 A2R:=B1r.sok
theorem B26:E5 B1J A2R:=B1r.flat
def kN:FD Tryz.prog:=⟨px 0X12384881de1c48849392612621fa2e1c148828c61a287c5e061c67a148828c4e281718621fa2e1c148828c61a1d7c48061c61c148828c3c3b1718241d8391183a123918763520241c82e162bc7a2f132e187632620563201a7c07806c7122e6812a6801e1d69681a16101ac41b11919187632621c62d9032ed2632142,[],[],[.cellN 6 256],[cal B7N]⟩
def A4X:=kN.R
def C7w:AtH:=kN.lj 0 n [] [x3,x6]
def B5O:=tT [⟨1,2,C7w⟩]
def C1c:=mR A4X kN B5O n [a0,a1,a2] h
def B8W:=mJ kN B5O 0 n [] [x3,x6] h
def B4D:=kN.K Tryz.func122
def A5h:=kN.S
theorem C1A:SOk Tryz.prog 122 A5h:=B4D.sok
theorem B5m:E5 A4X A5h:=B4D.flat
def kM:FD Tryz.prog:=⟨px 0X127a4881de6e488283922127c18153e07c21825e4881de361a301ac4a04e4881c394185c5161c1a2a11983187653262151876325307024187632531a617c11918763262187632506051061c806131876325232231c2d81320321c22d912022,[.c (.b true)],[],[.cellN 2 256],[cal C1A]⟩
def A4W:=kM.R
def B12:AtH:=kM.lj 0 n [m] [x2,x3,x6,x7,x8]
def B5N:=tT [⟨2,5,B12⟩]
def C1b:=mR A4W kM B5N n [a0] h
def A34:=mL kM B5N 0 n [m] [x2,x3,x6,x7,x8] h
def B4C:=kM.K Tryz.func57
def A5g:=kM.S
theorem A6D:SOk Tryz.prog 57 A5g:=B4C.sok
theorem B5l:E5 A4W A5g:=B4C.flat
end
noncomputable section
variable (n m m2:Nat) (a0 x1 x2 x3 x4 x6 x7 x8 x17 x33 x34 x44 x45:Val) (h:A6)
def uC:FD Tryz.prog:=⟨px 0X14821361e2a87ffffd6191b7f01b3601647c0072123211012,[.c (.b false)],[],[.tmp 2],[]⟩
def B1M:=uC.R
def B7B:=mR B1M uC (tT []) n [a0] h
def B1D:=uC.K Tryz.func247
def A25:=uC.S
theorem B8r:SOk Tryz.prog 247 A25:=B1D.sok
theorem B3I:E5 B1M A25:=B1D.flat
def bN:FD Tryz.prog:=⟨px 0X121871de1c7382212621fa397e1728c61c1a4284d432227c18153e07c218621fa1a5e1728c4a04a1c14185c058411e2a64981a0418754321721518732153070241873215339617c11918732162187321506051066384464d31873215232133392d8132132392d862ec22122,[],[],[.cellN 2 7],[]⟩
def wH:=bN.R
def A4p:AtH:=bN.lj 0 n [m] [x1,x2,x3,x7,x8]
def A6N:=tT [⟨2,5,A4p⟩]
def B2Z:=mR wH bN A6N n [a0] h
def xO:=mL bN A6N 0 n [m] [x1,x2,x3,x7,x8] h
def A6y:=bN.K Tryz.func125
def wN:=bN.S
theorem A0u:SOk Tryz.prog 125 wN:=A6y.sok
theorem A8P:E5 wH wN:=A6y.flat
def gM:FD Tryz.prog:=⟨px 0X1121121239c5d153a06b7d2180152112122462bc6101ac2868136a5d5c322fc411a1e749825d5c432155d5c23070245d5c233d617c15e5d5c325d5c20605106111ac41b5b3935d5c220301521121224632a2a849c8896519c7f619c1f2419c4f60632a2a816118a7f618a1f2418a4f60632e2a866e2bf6106e1af66e1f346e4f6062bc6101ac61c142f4d2c5a12211301521121224634e2a8762a3a2ab04b68b03b4b3eb41b4b3b63a31623a7f63a1f043a4f60632a2a81965287f6281f04284f601617c61c0454d2a2e1221131062ec2112,[.c (.b true),.c (.b false)],[.eqA true ([.i .i64,.i .i64,.i .i64,.i .i64,.i .i64,.i .i64,.i .i64,.i .i64,.i .i64,.i .i64,.i .i64]) (.t 18) (.t 19)],[.tmp 2],[cal B8r,cal A0u]⟩
def A2C:=gM.R
def A94:AtH:=gM.lj 0 n [m] [x44,x45]
def B1X:=tT [⟨2,2,A94⟩]
def B7z:=mR A2C gM B1X n [a0] h
def A19:=mL gM B1X 0 n [m] [x44,x45] h
def B1B:=gM.K Tryz.func230
def A23:=gM.S
theorem B8n:SOk Tryz.prog 230 A23:=B1B.sok
theorem B3G:E5 A2C A23:=B1B.flat
def eR:FD Tryz.prog:=⟨px 0X1131218481de28486e39332223ac5d154a07c218621fa2a2814828c61c638148828c4c04c6816182fc1911a025d1964252355d64243270245d64243289617c15e5d642525d6424162515d115d6424242232e84a155a07c2182384881de6191a2e411ac48065907c61967c3c0384884e397182ac02a8711e2a74981a044a4918764272154a4964253070244a49642533d617c14b4a49642624a4964250605106121ac41b3834a4964252642332384881de619491e411ac61c344c384883856421422384881de629291e411ac61c244c384883856421422384881de619191e411ac61c144c7a48838564214226e4881de6511e411ac61c044c5a488283956421421c62d91642142017c3166e481de5a05a483843222241637c3e1c121d5421525c516101ac41b1a393542142421331d2d8142132101d2d862ec32122,[],[],[.cellN 2 32,.tmp 3],[cal B8n,cal uJ,cal A0u]⟩
def A71:=eR.R
def B6B:AtH:=eR.lj 0 n [m] [x2,x4,x6,x33,x34]
def B6C:AtH:=eR.lj 1 n [m] [x2,x4,x6,x45]
def A9c:=tT [⟨2,5,B6B⟩,⟨2,4,B6C⟩]
def C3q:=mR A71 eR A9c n [a0] h
def A7a:=mL eR A9c 0 n [m] [x2,x4,x6,x33,x34] h
def A7b:=mL eR A9c 1 n [m] [x2,x4,x6,x45] h
def B9J:=eR.K Tryz.func189
def A8Q:=eR.S
theorem A8R:SOk Tryz.prog 189 A8Q:=B9J.sok
theorem B8q:E5 A71 A8Q:=B9J.flat
def nX:FD Tryz.prog:=⟨px 0X12181b1de281b382212621fa1a284c191b96311ac1c4883d39442221e829155e07c2181a21fa3e61628c4284c1962a311ac65907c61967c2c01c488387e2c1191819c511a022954325215294324307024294324339617c12a294325229432406051291129432424323318821b1de13b042df6131e122e113e1043b3e819496311ac5e4883829296311ac4e4883819196311ac3e48838516311ac2e48818391a119432333c24881de1c32d96101ac06689432223b2d862ec22122,[],[.slA 32 1 (.t 1) none none],[.cellN 2 11],[cal A1L,cal vC]⟩
def A70:=nX.R
def B6z:AtH:=nX.lj 0 n [m] [x2,x3,x4,x17]
def C0e:=tT [⟨2,4,B6z⟩]
def C3p:=mR A70 nX C0e n [a0] h
def A69:=mL nX C0e 0 n [m] [x2,x3,x4,x17] h
def B9I:=nX.K Tryz.func200
def A8O:=nX.S
theorem C36:SOk Tryz.prog 200 A8O:=B9I.sok
theorem B8p:E5 A70 A8O:=B9I.flat
def uB:FD Tryz.prog:=⟨px 0X17312181b1de281b2e3933222013312181b1de03b3e83322224672a2a804868b448483b6a48483b601637c4a1e172c42326c0682481de1d52d912a6801e1c695c1916111ac3a1b1a3918654215242234821b1de3b42d96101ac448739442132303b2d862ec32122,[.c (.b false),.c (.b true)],[.eqA true (E3Q 32 (.i .u8)) (.t 17) (.t 18)],[.cellN 2 11,.tmp 3],[cal C36,cal A8R]⟩
def A2D:=uB.R
def B7A:=mR A2D uB (tT []) n [a0] h
def B1C:=uB.K Tryz.func144
def A24:=uB.S
theorem B8o:SOk Tryz.prog 144 A24:=B1C.sok
theorem B3H:E5 A2D A24:=B1C.flat
def oZ:FD Tryz.prog:=⟨px 0X16821288961a7c5677c2889607c019152120118b921121224486149c889657c0713602211211212242c315617c04133022050131211012,[],[],[.tmp 2],[]⟩
def A7Z:=oZ.R
def B5b:=mR A7Z oZ (tT []) n [a0] h
def A7H:=oZ.K Tryz.func94
def A0t:=oZ.S
theorem B5D:SOk Tryz.prog 94 A0t:=A7H.sok
theorem B1i:E5 A7Z A0t:=A7H.flat
end
noncomputable section
variable (n m m2:Nat) (a0 a1 x2 x3 x4 x12 x13 x14:Val) (h:A6)
def uE:FD Tryz.prog:=⟨px 0X11211212011921121224633a2a861e54c7f6288974c7f1c4c364c1f044c4f60632a2a81613a7f63a1f043a4f60631e2a82889652a7f3e2a3605617c2a712a381203383161c861c1444d431221062ec2112,[.c (.b true)],[],[.tmp 2],[]⟩
def A2F:=uE.R
def B7H:=mR A2F uE (tT []) n [a0] h
def B1F:=uE.K Tryz.func190
def A27:=uE.S
theorem B8B:SOk Tryz.prog 190 A27:=B1F.sok
theorem B3L:E5 A2F A27:=B1F.flat
def oA:FD Tryz.prog:=⟨px 0X12284881de184883a3924121cc1e155e07c218621fa1a18148828c38061a07c2c061c01c2b4d71819801885161c1e2e11981a051e1d1c65432182151e1d1c43263070241e1d1c432631a617c11f1e1d1c432721e1d1c432606051061c861c14a4c41e1d1c4326242230123a4881de4a488382412241637c6101ac2a273931943242432331c2d842ec022ed343232,[],[],[.cellN 4 256],[cal B8B]⟩
def A74:=oA.R
def B6X:AtH:=oA.lj 0 n [m] [x2,x3,x4,x12,x13,x14]
def C0g:=tT [⟨2,6,B6X⟩]
def C3x:=mR A74 oA C0g n [a0,a1] h
def A7g:=mL oA C0g 0 n [m] [x2,x3,x4,x12,x13,x14] h
def B9O:=oA.K Tryz.func121
def A8X:=oA.S
theorem A8Y:SOk Tryz.prog 121 A8X:=B9O.sok
theorem B8C:E5 A74 A8X:=B9O.flat
end
noncomputable section
variable (n m m2:Nat) (a0 a1 a2 x1 x2 x4 x5 x14:Val) (h:A6)
def uG:FD Tryz.prog:=⟨px 0X115122821de6112a1022d3e861a13cc068800013fc289667c0381185422011bc5162821de3c002d3e845422241637c6e2c122d7640526403319c01982481de1d62d912a6801e2a6918c1f16101ac6e1b28391876404201195125a21de02d3e83542224631e2a849642c7f02c3601617c018161d4304243033102d2d8432ed343032,[.c (.b true)],[.slA 32 1 (.t 6) none none],[.cellN 4 2,.tmp 5],[cal A8R]⟩
def A2I:=uG.R
def B7K:=mR A2I uG (tT []) n [a0,a1] h
def B1I:=uG.K Tryz.func120
def A3c:=uG.S
theorem B8I:SOk Tryz.prog 120 A3c:=B1I.sok
theorem B3N:D4h A2I A3c:=B1I.tidy
def yD:FD Tryz.prog:=⟨px 0X11712384881de61a211ac6e2381c4882c39576220119c7166e4881de5a07e4883847622241637c3e281229191863521863337c078221de2d182d912e6802a1e696c1a161a201ac3e1b3841b11919186342101c2d81e52ed032ed4653142,[],[],[.cellN 6 256,.tmp 7],[cal B8I,cal A8Y]⟩
def A5c:=yD.R
def C1x:=mR A5c yD (tT []) n [a0,a1,a2] h
def B4Y:=yD.K Tryz.func55
def yI:=yD.S
theorem A6L:SOk Tryz.prog 55 yI:=B4Y.sok
theorem B5L:E5 A5c yI:=B4Y.flat
def oB:FD Tryz.prog:=⟨px 0X1228481de2c483a3924121cc1e155e07c218621fa3e2c14828c61c618148828c61a07c7a0289667c405e2911918188611a021e6542162151e542153070241e542153289617c11f1e5421621e5421506051011e54215254230124e481de4a4838241224631e2a849642a7f42a3601617c47161c5421525421431d2d815421421d42d9022ed242132,[.c (.b true)],[],[.cellN 4 32],[]⟩
def A79:=oB.R
def B69:AtH:=oB.lj 0 n [m] [x1,x2,x4,x5,x14]
def C0h:=tT [⟨2,5,B69⟩]
def C3B:=mR A79 oB C0h n [a0,a1] h
def A7k:=mL oB C0h 0 n [m] [x1,x2,x4,x5,x14] h
def B9S:=oB.K Tryz.func145
def A84:=oB.S
theorem C4h:SOk Tryz.prog 145 A84:=B9S.sok
theorem B8J:E5 A79 A84:=B9S.flat
def A1p:FD Tryz.prog:=⟨px 0X11985167a1b1de11a6806686111ac61a201ac405e4881d391854220135124a1b1de03b3e83542224671e2a84964287f4283601617c4061b4214242133303b42d9022ed342132,[.c (.b false),.c (.b true)],[],[.cellN 4 11,.tmp 5],[cal C4h,cal B8o]⟩
def A78:=A1p.R
def C3A:=mR A78 A1p (tT []) n [a0,a1] h
def B9R:=A1p.K Tryz.func77
def A83:=A1p.S
theorem C4g:SOk Tryz.prog 77 A83:=B9R.sok
theorem B8H:E5 A78 A83:=B9R.flat
end
noncomputable section
variable (n m m2:Nat) (a0 a1 x1 x3 x14 x15:Val) (h:A6)
def B0F:FD Tryz.prog:=⟨px 0X113121841de6131a3022e3e8381595d82833f39532221f821fa262d961a4883cc000004883c3fd564232016d3121841de02e3e83322224633a2a861e3587f6581cb05836581f028584f601637c6e2a1193a420424203318c0188231de2a42d913a6802e28697c1b16101ac6488381648819801c11a542042016d3124a41de02e3e833222241627c61c807131920322023102e22d922022,[.c (.b true)],[],[.cellN 2 4,.tmp 3],[cal A80]⟩
def C8p:=B0F.R
def yF:=mR C8p B0F (tT []) n [a0] h
def C8i:=B0F.K Tryz.func12
def zG:=B0F.Q
theorem B5M:SOk Tryz.prog 12 zG:=C8i.ok
theorem yJ:OfT C8p zG:=C8i.of
def iL:FD Tryz.prog:=⟨px 0X119841363a2a862a1397f6391f06394f06a394f439360361e2a8164297f429360068861c31e4c1f412341022ed22122,[.c (.b false)],[.eqN true true (.t 6)],[.tmp 4],[]⟩
def pG:=iL.R
def A8c:=mR pG iL (tT []) n [a0,a1] h
def A1z:=iL.K Tryz.func146
def pS:=iL.S
theorem A86:SOk Tryz.prog 146 pS:=A1z.sok
theorem A5L:E5 pG pS:=A1z.flat
def A1q:FD Tryz.prog:=⟨px 0X122a4881de64883861a4881980041c53121c32d9131032,[],[],[.cellN 3 256],[]⟩
def A8a:=A1q.R
def C3C:=mR A8a A1q (tT []) n [a0,a1] h
def B9T:=A1q.K Tryz.func41
def A1M:=A1q.S
theorem C4i:SOk Tryz.prog 41 A1M:=B9T.sok
theorem B8K:E5 A8a A1M:=B9T.flat
def T0:FD Tryz.prog:=⟨px 0X124e4881de611a5ec4061c34a4c54120122e4881de01c3e824122462bc61a201ac401e43841842142421331c42d9022ed242132,[],[],[.cellN 4 256],[cal A86,cal C4i]⟩
def dN:=T0.R
def nO:N1:=T0.E
def A3X:TT:=⟨nO,[]⟩
def A0f:=mR dN T0 A3X n [a0,a1] h
def oC:=T0.K Tryz.func78
def dP:=T0.S
theorem J5:SOk Tryz.prog 78 dP:=oC.sok
theorem wO:E5 dN dP:=oC.flat
def iK:FD Tryz.prog:=⟨px 0X12281b1de481b3d3924121e801dc21b1de3b182d913e6803a3b691d82d161a221ac38061a211ac2c01842e391b18422012281b1de03b3e824122462bc5e2a122b65425265424318c018807c5123e6813a6802e1f69781a161a201ac40633804e1b4d1b76542523b42d9022ed242132,[],[],[.cellN 4 11],[cal A6I,cal J5,cal C4g]⟩
def iM:=iK.R
def uY:=mR iM iK (tT []) n [a0,a1] h
def A1y:=iK.K Tryz.func35
def iQ:=iK.S
theorem bW:SOk Tryz.prog 35 iQ:=A1y.sok
theorem pR:E5 iM iQ:=A1y.flat
def X7:FD Tryz.prog:=⟨px 0X11cc211c39122121c81f154e07c218624881de2a2e48819861a211ac28044387e07e2a171818c411a021f1e43152151f1e3143070241f1e31431a617c1281f1e31521f1e31406051061c85a1d131f1e31423136831664881c5bc61c064c04194d531220148823b91212241637c6101ac63380454d4181221134883b862ec2112,[],[],[.tmp 2],[cal lA,cal J5]⟩
def pF:=X7.R
def A03:AtH:=X7.lj 0 n [m] [x1,x3,x14,x15]
def A1P:=tT [⟨2,4,A03⟩]
def A8b:=mR pF X7 A1P n [a0] h
def rV:=mL X7 A1P 0 n [m] [x1,x3,x14,x15] h
def A1x:=X7.K Tryz.func51
def pQ:=X7.S
theorem A85:SOk Tryz.prog 51 pQ:=A1x.sok
theorem A7r:qT pF pQ:=A1x.out
end
end Go.Proofs.YtbnkgnfhgbhblaaGreat
namespace Go.Proofs.YtbnkgnfhgbhblaaGreat
open Go Go.Esc
section
def IsView (h:A6) (f:Cell) (D:Dev):Prop:=∃ r q rw rw',f=.f 41 [(r,0)]/\rd h r=some ⟨[.sl q 0 D.length 256],rw⟩/\rd h q=some ⟨D4 D,rw'⟩
theorem IsView.ro {h:A6} {f:Cell} {D:Dev} (hv:IsView h f D):IsView (ro h) f D:=by
 obtain ⟨r,q,rw,rw',e,h1,h2⟩:=hv;exact ⟨r,q,false,false,e,B61 h1 rfl,B61 h2 (fS D)⟩
theorem IsView.more {h:A6} {f:Cell} {D:Dev} (hv:IsView h f D) (l:A6):IsView (h++l) f D:=by
 obtain ⟨r,q,rw,rw',e,h1,h2⟩:=hv;exact ⟨r,q,rw,rw',e,B7 h1,B7 h2⟩
theorem IsView.since {g h:A6} {f:Cell} {D:Dev} (hv:IsView g f D) (h1:Low g.length g h):IsView h f D:=by
 obtain ⟨r,q,rw,rw',e,h2,h3⟩:=hv;exact ⟨r,q,rw,rw',e,h1.rd h2,h1.rd h3⟩
theorem IsView.get {h:A6} {f:Cell} {D:Dev} (hv:IsView h f D):∃ id cs,f=.f id cs:=by
 obtain ⟨r,q,rw,rw',e,_⟩:=hv;exact ⟨_,_,e⟩
def vwC (b n m:Int) (f:Cell):List Cell:=[.i .i64 b,.i .i64 n,.i .u64 m,f]
section
variable {D:Dev} {n m:Int} {f:Cell}
theorem D2Z {b:Int}:ldN (rT (vwC b n m f)) 0 3=some (.a (D3 b n m)):=rfl
theorem E0e {b:Int}:ldN (rT (vwC b n m f)) 0 4=some (.a (vwC b n m f)):=rfl
end
theorem D01 {h:A6} {r q:Nat} {rw rw':Bool} {D:Dev} {no:Nat} (hD:okD D) (bH:no<D.length) (h1:rd h r=some ⟨[.sl q 0 D.length 256],rw⟩) (h2:rd h q=some ⟨D4 D,rw'⟩) :
  A1M [iV (no:Int),pV r 0] h=some (.a (A5 D[no]),h):=by
 have key:∀ g rw rw',rd g r=some ⟨[.sl q 0 D.length 256],rw⟩->rd g q=some ⟨D4 D,rw'⟩->∃ g',A8a 0 [iV (no:Int),pV r 0] g=some (.a (A5 D[no]),g'):=by
  intro g rw rw' h1 h2;have hz:(E3Q 256 (Cell.i .u8 0)).length=256:=E4g;have hB:(A5 D[no]).length=256:=by rw [A4,hD.at bH]
  have l1:B4 (g++[rT (E3Q 256 (.i .u8 0))]) (pV r 0)=some (sV q 0 D.length 256):=B5 (cs:=[.sl q 0 D.length 256]) (B7 h1) rfl (by cases rw<;>rfl);have a1:D6 256 (sV q 0 D.length 256) (iV (no:Int))=some (pV q (0+no*256)):=C5 bH;have l2:C8 (g++[rT (E3Q 256 (.i .u8 0))]) 256 (pV q (0+no*256))=some (.a (A5 D[no])):=by
   rw [cF (cs:=D4 D) (rw:=rw') (B7 h2) (by rw [I5 hD];omega) (by
    rw [E4b,dR hD bH,F6];simp),E4b,dR hD bH]
  rw [E4b] at a1 l2;rw [C3C];generalize E3Q 256 (Cell.i .u8 0)=z at *;generalize A5 D[no]=y at *;exact ⟨_,by simp only [esc,esh,Nat.reduceAdd,Nat.reduceMul,Nat.reduceLT,l1,a1,l2,hz,hB]<;>rfl⟩
 obtain ⟨g',e⟩:=key (ro h) false false (B61 h1 rfl) (B61 h2 (fS D));exact B8K e (by simp [Val.flat])
theorem C71 {b n m no:Int} {f:Nat} {cs:List (Nat × Nat)} {h:A6}:pS [.a (vwC b n m (.f f cs)),iV no] h=some (bV (decide (0<=no)&&decide (no<b)),h):=by
 have key:∀ g,∃ g',pG 0 [.a (vwC b n m (.f f cs)),iV no] g=some (bV (decide (0<=no)&&decide (no<b)),g'):=by
  intro g;rw [A8c];unfold vwC;by_cases c1:0<=no
  ·exact ⟨_,by simp only [esc,esh,Nat.reduceAdd,Nat.reduceMul,Nat.reduceLT,c1]<;>rfl⟩
  ·exact ⟨_,by simp only [esc,esh,Nat.reduceAdd,Nat.reduceMul,Nat.reduceLT,c1,E3W]<;>rfl⟩
 obtain ⟨g',e⟩:=key (ro h);exact A5L e rfl
theorem dE {n m no:Int} {f:Cell} {D:Dev} {h:A6} (hD:okD D) (hv:IsView h f D):dP [.a (vwC D.length n m f),iV no] h=some (.a (A5 (blk D no)),h):=by
 have key:∀ g,IsView g f D->∃ g',dN 0 [.a (vwC D.length n m f),iV no] g=some (.a (A5 (blk D no)),g'):=by
  intro g hv;have hz:(A5 (zeros 256)).length=256:=by rw [A4];exact zeros_length
  have hB:(A5 (blk D no)).length=256:=by rw [A4,O0 hD]
  obtain ⟨r,q,rw',rw'',rfl,h1,h2⟩:=hv;have hT:=λh=>C71 (b:=D.length) (n:=n) (m:=m) (no:=no) (f:=41) (cs:=[(r,0)]) (h:=h)
  have hcv:∀ (x:Val) (h:A6),A1U nO (.c (.f 41 [(r,0)])) [x] h=A1M [x,pV r 0] h:=λ_ _=>Eq.trans rfl rfl
  rw [A0f,I3];by_cases c1:0<=no/\no<D.length
  ·have c2:=c1.1;have c3:=c1.2;obtain ⟨k,rfl⟩:∃ k:Nat,no=k:=⟨no.toNat,by omega⟩;have e1:=C4G (D:=D) (i:=k) (by omega);have hO:=D01 (h:=g++[rT (vwC D.length n m (.f 41 [(r,0)])),rT (A5 (zeros 256))]) hD (show k<D.length by omega) (B7 h1) (B7 h2);rw [<-e1] at hO;simp only [c2,c3,decide_true,Bool.and_self] at hT;generalize A5 (zeros 256)=z at *;generalize A5 (blk D k)=y at *;unfold vwC at *;exact ⟨_,by simp only [esc,esh,Nat.reduceAdd,Nat.reduceMul,Nat.reduceLT,hT,hcv,hO,hz,hB]<;>rfl⟩
  ·have e1:=D1B (D:=D) (i:=no) (by omega);have ht:(decide (0<=no)&&decide (no<(D.length:Int)))=false:=by
    rw [Bool.and_eq_false_iff,decide_eq_false_iff_not,decide_eq_false_iff_not];omega
   simp only [ht] at hT;rw [e1] at hB ⊢;have ef:D9 (A5 (zeros 256)) []=some (A5 (zeros 256)):=rfl;generalize A5 (zeros 256)=z at *;unfold vwC at *;exact ⟨_,by simp only [esc,esh,Nat.reduceAdd,Nat.reduceMul,Nat.reduceLT,hT,ef,hz]<;>rfl⟩
 obtain ⟨g',e⟩:=key (ro h) hv.ro;exact wO e (by simp [Val.flat])
theorem D8M {h:A6} {id m sz:Nat} {ys:List Cell} {y:Val} (hr:rd h id=rT []) (hy:Has h y sz m ys) (hsz:0<sz) (hn:m<=1073741824) :
  iY h sz (sV id 0 0 sz) y=some (sV h.length 0 m sz,h.set id none++[rT ys]):=by
 have h1:=hy.add;have h2:ys.length/sz=m:=by rw [hy.length];exact Nat.mul_div_cancel m hsz
 simp only [iY,h1,hr,E3X,h2,E37,E4b];rw [if_pos ⟨trivial,trivial,by simp,trivial,hn⟩]
def A9y (D:Dev):Bool:=okS (D.headD [])&&decide (fieldN (D.headD []) 8 2=D.length)
def D0b (D:Dev):Int:=fieldN (D.headD []) 10 2
def D1Q (D:Dev):Int:=fieldN (D.headD []) 12 8
theorem D2Y {v:Val} {h:A6} (hv:Has h v 256 0 []):∃ t,zG [v] h=some (.t [.a (vwC 0 0 0 .nf),.c (.i .i64 13)],h++t):=by
 have ef:D9 [o0,o0,.i .u64 0,.nf] []=some [o0,o0,.i .u64 0,.nf]:=rfl;have hl:=hv.len;rw [show ((0:Nat):Int)=0 from rfl] at hl;exact ⟨_,yJ (n:=0) (by rw [yF];simp only [esc,esh,Nat.reduceAdd,Nat.reduceMul,Nat.reduceLT,hl,ef,vwC]<;>rfl)⟩
theorem D4I {b:List UInt8} (h:okS b=false):B88 b=D3 0 0 0:=by unfold B88;rw [h];rfl
theorem D0t {b:List UInt8} (h:okS b=true):B88 b=D3 (fieldN b 8 2) (fieldN b 10 2) (fieldN b 12 8):=by unfold B88;rw [h];rfl
theorem D4b {v:Val} {D:Dev} {h:A6} (hv:Has h v 256 D.length (D4 D)) (hD:okD D) (h0:0<D.length) (hn:A9y D=false):∃ t,zG [v] h=some (.t [.a (vwC 0 0 0 .nf),.c (.i .i64 13)],h++t):=by
 have ef:D9 [o0,o0,.i .u64 0,.nf] []=some [o0,o0,.i .u64 0,.nf]:=rfl;have hl:=hv.len;have hv2:=hv.more [rT [o0,o0,.i .u64 0,.nf]];obtain ⟨b,E,rfl⟩:∃ b E,D=b::E:=by cases D with | nil=>simp at h0 | cons b E=>exact ⟨b,E,rfl⟩
 obtain ⟨id,off,rfl,hid,_,hB⟩:=hv2.sl h0;have hBl:(A5 b).length=256:=by rw [A4,hD.cons.1]
 have l2:=hB 0 256 (by rw [I5 hD];omega);have ec:((D4 (b::E)).drop 0).take 256=A5 b:=by
  have:=dR (i:=0) hD h0
  rwa [Nat.zero_mul] at this
 rw [ec,E4U] at l2;have a1:D6 256 (sV id off (b::E).length 256) (iV 0)=some (pV id off):=by
  have:=C5 (k:=.i64) (id:=id) (off:=off) (sz:=256) (j:=0) (len:=(b::E).length) h0
  rwa [Nat.zero_mul,E4U] at this
 have hG:=λh=>A6p (h:=h) hD.cons.1
 have c0:¬ (((b::E).length:Nat):Int)=0:=by omega
 have n13:¬ (13:Int)=0:=by decide
 unfold A9y at hn;simp only [List.headD_cons] at hn;cases ho:okS b with
 | false =>
  simp only [ho,D4I ho,cond_false] at hG;refine ⟨[rT [o0,o0,.i .u64 0,.nf],rT [o0,o0,.i .u64 0]],yJ (n:=0) ?_⟩;rw [yF];generalize (b::E).length=N at *;generalize A5 b=y at *;unfold D3 at *;simp only [esc,esh,Nat.reduceAdd,Nat.reduceMul,Nat.reduceLT,ef,vwC,l2,a1,hG,n13,eq_self,c0]<;>rfl
 | true =>
  rw [ho,E31] at hn
  replace hn:=of_decide_eq_false hn
  simp only [ho,D0t ho,cond_true] at hG;refine ⟨[rT [o0,o0,.i .u64 0,.nf],rT [.i .i64 (fieldN b 8 2),.i .i64 (fieldN b 10 2),.i .u64 (fieldN b 12 8)]],yJ (n:=0) ?_⟩;rw [yF];generalize (b::E).length=N at *;generalize A5 b=y at *;generalize fieldN b 8 2=n1 at *;unfold D3 at *;simp only [esc,esh,Nat.reduceAdd,Nat.reduceMul,Nat.reduceLT,ef,vwC,l2,a1,hG,n13,eq_self,c0,hn]<;>rfl
theorem D2X {v:Val} {D:Dev} {h:A6} (hv:Has h v 256 D.length (D4 D)) (hD:okD D) (hn:A9y D=false):∃ t,zG [v] h=some (.t [.a (vwC 0 0 0 .nf),.c (.i .i64 13)],h++t):=by
 by_cases h0:D=[]
 ·subst h0;exact D2Y hv
 ·exact D4b hv hD (List.length_pos_iff.2 h0) hn
theorem C6F {v:Val} {D:Dev} {h:A6} (hv:Has h v 256 D.length (D4 D)) (hD:okD D) (hn:A9y D=true) (h60:D.length<=1073741824) :
  ∃ f t,zG [v] h=some (.t [.a (vwC D.length (D0b D) (D1Q D) f),.c o0],h++t)/\IsView (h++t) f D:=by
 obtain ⟨b,E,rfl⟩:∃ b E,D=b::E:=by
  cases D with
  | nil=>simp only [A9y,List.headD_nil,E4h,E3R,decide_eq_true_eq] at hn;exact absurd hn.1 (by decide)
  | cons b E=>exact ⟨b,E,rfl⟩
 have h0:0<(b::E).length:=by simp
 have hv2:=hv.more [rT [o0,o0,.i .u64 0,.nf]];unfold A9y at hn;simp only [List.headD_cons,E3R,decide_eq_true_eq] at hn;have ho:=hn.1;have hn2:=of_decide_eq_true hn.2;have hv3:=hv.more [rT [o0,o0,.i .u64 0,.nf],rT (D3 (b::E).length (fieldN b 10 2) (fieldN b 12 8)),rT []];obtain ⟨id,off,rfl,hid,_,hB⟩:=hv2.sl h0;have hBl:(A5 b).length=256:=by rw [A4,hD.cons.1]
 have l2:=hB 0 256 (by rw [I5 hD];omega);have ec:((D4 (b::E)).drop 0).take 256=A5 b:=by
  have:=dR (i:=0) hD h0
  rwa [Nat.zero_mul] at this
 rw [ec,E4U] at l2;have a1:D6 256 (sV id off (b::E).length 256) (iV 0)=some (pV id off):=by
  have:=C5 (k:=.i64) (id:=id) (off:=off) (sz:=256) (j:=0) (len:=(b::E).length) h0
  rwa [Nat.zero_mul,E4U] at this
 have hG:=λh=>A6p (h:=h) hD.cons.1
 have c0:¬ (((b::E).length:Nat):Int)=0:=by omega
 have n13:¬ (13:Int)=0:=by decide
 simp only [ho,D0t ho,cond_true,hn2] at hG;have eN:D0b (b::E)=fieldN b 10 2:=rfl;have eM:D1Q (b::E)=fieldN b 12 8:=rfl;have hA:=D8M (id:=h.length+2) (by simp) hv3 (by omega) h60;have ef1:D9 ([]:List Cell) []=some []:=rfl;have V7:id<h.length:=by
  rcases hv with ⟨e,_⟩ | ⟨i,o,r,e,hr,_⟩
  ·cases e
  ·cases e;exact C4 hr
 rw [eN,eM];unfold IsView;generalize D4 (b::E)=C at *;have emk:B3V 41 [pV (h.length+4) 0]=some (.c (.f 41 [(h.length+4,0)])):=rfl;refine ⟨.f 41 [(h.length+4,0)],[rT (vwC (b::E).length (fieldN b 10 2) (fieldN b 12 8) (.f 41 [(h.length+4,0)])),rT (D3 (b::E).length (fieldN b 10 2) (fieldN b 12 8)),none,rT C,rT [.sl (h.length+3) 0 (b::E).length 256]],yJ (n:=0) ?_,h.length+4,h.length+3,true,true,rfl,M9,M9⟩;rw [yF];generalize (b::E).length=N at *;generalize A5 b=y at *;generalize fieldN b 10 2=n1 at *;generalize fieldN b 12 8=n2 at *;have ef2:∀ x,D9 [o0,o0,.i .u64 0,.nf] [(0,3,.a [.i .i64 (N:Int),.i .i64 n1,.i .u64 n2]),(3,1,.c x)]=some [.i .i64 (N:Int),.i .i64 n1,.i .u64 n2,x]:=λ_=>rfl
 unfold D3 vwC at *;simp only [esc,esh,Nat.reduceAdd,Nat.reduceMul,Nat.reduceLT] at hA;simp only [esc,esh,Nat.reduceAdd,Nat.reduceMul,Nat.reduceLT,l2,a1,hG,n13,eq_self,c0,hA,ef1,ef2,emk]<;>rfl
end
end Go.Proofs.YtbnkgnfhgbhblaaGreat
namespace Go.Proofs.YtbnkgnfhgbhblaaGreat
open Go Go.Esc
set_option maxRecDepth 100000
noncomputable section
variable (n m m2:Nat) (a0 a1:Val) (h:A6)
def pA:FD Tryz.prog:=⟨px 0X14821361e2a81889611b7f01b3601647c0072123211012,[.c (.b false)],[],[.tmp 2],[]⟩
def A0e:=pA.R
def B5d:=mR A0e pA (tT []) n [a0] h
def A7I:=pA.K Tryz.func198
def A0v:=pA.S
theorem B5I:SOk Tryz.prog 198 A0v:=A7I.sok
theorem B1j:E5 A0e A0v:=A7I.flat
def yC:FD Tryz.prog:=⟨px 0X15c411961e311ac61967c403a488183954120114114122462bc6101ac403721322123141022ed22122,[],[],[.tmp 4],[cal B5I,cal vC]⟩
def A5b:=yC.R
def C1w:=mR A5b yC (tT []) n [a0,a1] h
def B4X:=yC.K Tryz.func142
def A5K:=yC.S
theorem C17:SOk Tryz.prog 142 A5K:=B4X.sok
theorem B5H:E5 A5b A5K:=B4X.flat
end
end Go.Proofs.YtbnkgnfhgbhblaaGreat
namespace Go.Proofs.YtbnkgnfhgbhblaaGreat
open Go Go.Esc
def mD (d:List Int):List UInt8:=(d.map (A9 2)).flatten
theorem B6R {d:List Int}:(mD d).length=2*d.length:=by
 induction d with
 | nil=>rfl
 | cons x d ih=>simp only [mD,E4R,E4L,E3S,O6,E3Z] at ih ⊢;omega
theorem C51 {d:List Int} {x:Int}:mD (d++[x])=mD d++A9 2 x:=by simp [mD]
def ptP (b:List UInt8) (i:Nat):Int:=fieldN b (2*i) 2
theorem D57 (b:List UInt8) (i:Nat):0<=ptP b i/\ptP b i<65536:=by
 unfold ptP fieldN;have h1:=C0V ((b.drop (2*i)).take 2);have h2:((b.drop (2*i)).take 2).length<=2:=by simp;omega
 have h3:=tM h2;have h4:(256:Nat) ^ 2=65536:=by decide
 omega
theorem C2i {k:Nat} {h:A6} (hk:k<128):A0v [iV k] h=some (bV true,h):=by
 have key:∀ g,∃ g',A0e 0 [iV k] g=some (bV true,g'):=by
  intro g;have c1:(0:Int)<=k:=by omega
  have c2:(k:Int)<128:=by omega
  rw [B5d];exact ⟨_,by simp only [esc,c1,c2]<;>rfl⟩
 obtain ⟨g',e⟩:=key (ro h);exact B1j e rfl
theorem D9Z {b:List UInt8} {i:Nat} (hb:b.length=256) (hi:i<128):((atN b ((2*i:Nat):Int) 2:Nat):Int)=ptP b i:=by
 unfold atN ptP fieldN;rw [if_pos ⟨by omega,N0.2 (by omega)⟩];simp only [E38];rfl
theorem D4c {i:Nat} (hi:i<128):IntKind.wrap .i64 (2*(i:Int))=((2*i:Nat):Int):=by rw [wrap_i64 (by omega) (by omega)];omega
theorem C7S {b:List UInt8} {k:Nat} {h:A6} (hb:b.length=256) (hk:k<128):A5K [.a (A5 b),iV k] h=some (iV (ptP b k),h):=by
 have key:∀ g,∃ g',A5b 0 [.a (A5 b),iV k] g=some (iV (ptP b k),g'):=by
  intro g;have hB:(A5 b).length=256:=by rw [A4,hb]
  have hT:=λh=>C2i (h:=h) hk
  have hA:=λh=>lQ (h:=h) hb (a:=((2*k:Nat):Int)) (w:=2)
  rw [D9Z hb hk] at hA;rw [C1w];exact ⟨_,by simp only [esc,esh,Nat.reduceAdd,Nat.reduceMul,Nat.reduceLT,hB,hT,D4c hk,hA]<;>rfl⟩
 obtain ⟨g',e⟩:=key (ro h);exact B5H e rfl
def zI (n:Nat):List Int:=E3Q n 0
theorem G9 {n:Nat}:(zI n).length=n:=by simp [zI]
abbrev E6 (k l s p:Int) (d:List Int):List Cell:=.i .i64 k::.i .i64 l::.i .i64 s::.i .i64 p::encI d
def L8 (n:Int):Bool:=decide (0<=n)&&decide (n<=65535)
theorem B0u {n:Int}:L8 n=true↔0<=n/\n<=65535:=by unfold L8;simp
theorem W9 {n:Int} {h:A6}:A25 [iV n] h=some (bV (L8 n),h):=by
 refine B3I (n:=0) (h2:=ro h) ?_ rfl;rw [B7B];unfold L8;by_cases c:0<=n
 ·simp only [esc,c,E31]
 ·simp only [esc,c,E3W]
theorem C2f {n:Int} {h:A6}:A0t [iV n] h=some (iV (if n<1 then 0 else if 34304<n then 134 else (n+255)/256),h):=by
 refine B1i (n:=0) (h2:=ro h) ?_ rfl;rw [B5b];by_cases c1:n<1
 ·rw [if_pos c1];simp only [esc,c1]
 ·rw [if_neg c1];by_cases c2:34304<n
  ·rw [if_pos c2];simp only [esc,c1,c2]
  ·rw [if_neg c2];have e1:IntKind.wrap .i64 (n+256)=n+256:=wrap_i64 (by omega) (by omega);have e2:IntKind.wrap .i64 (n+256-1)=n+255:=by rw [wrap_i64 (by omega) (by omega)];omega
   simp only [esc,c1,c2,e1,e2,A6g (a:=n+255) (b:=256) (by omega) (by omega) (by omega)]
theorem B6Q {g:A6} {k l s p:Int} {d:List Int} {z:List Cell} {q:Nat} (hd:d.length=7) (hz:z.length=7):∀ e i m:Nat,i+e=6->e<m ->
  A4p q m (pV g.length 0) (pV (g.length+1) 0) (pV (g.length+2) 0) (.a (encI (d.take 6))) (iV i) (g++[rT (E6 k l s p d),rT z,rT (encI (d.take i++zI (7-i)))]) =
   some (.a (encI d),g++[rT (E6 k l s p d),rT (encI d),rT (encI d)])
 | e,i,0,_,hm=>by omega
 | 0,i,m+1,hi,hm=>by
  have e0:i=6:=by omega
  subst e0;have h1':¬ ((6:Nat):Int)<6:=by omega
  have l1:(E6 k l s p d)[10]?=some (.i .i64 d[6]):=by
   have:(encI d)[6]?=some (.i .i64 d[6]):=by rw [F0,E3P (by omega)];rfl
   exact this
  have a1:J2 7 1 (pV (g.length+2) 0) (iV 6)=some (pV (g.length+2) 6):=rfl;have ho:6<(encI (d.take 6++zI (7-6))).length:=by rw [A8,E3S,G9,E4k];omega
  have es:(encI (d.take 6++zI (7-6))).set 6 (.i .i64 d[6])=encI d:=by
   rw [aX]
   congr 1
   have h6:(d.take 6).length=6:=by simp;omega
   rw [E4p _ _ (by omega),h6];have:d=d.take 6++[d[6]]:=by
    rw [<-E36 (by omega),E3Y (by omega)]
   conv=>rhs;rw [this]
   rfl
  have hl:(encI d).length=7:=by rw [A8,hd]
  rw [xO];simp only [esc,esh,Nat.reduceAdd,Nat.reduceMul,Nat.reduceLT,h1',l1,a1,ho,es,hl,hz]
 | e+1,i,m+1,hi,hm=>by
  have ih:=B6Q (g:=g) (k:=k) (l:=l) (s:=s) (p:=p) (q:=q) hd hz e (i+1) m (by omega) (by omega);have h1':(i:Int)<6:=by omega
  have hx:A3f 6 (.a (encI (d.take 6))) (iV (i:Int))=some (iV d[i]):=by
   rw [B6r (by omega),F0,E4n (by omega),E3P (by omega)];rfl
  have a1:J2 7 1 (pV (g.length+2) 0) (iV (i:Int))=some (pV (g.length+2) i):=by rw [J3 (by omega)];simp
  have ho:i<(encI (d.take i++zI (7-i))).length:=by rw [A8,E3S,G9,E4k];omega
  have es:(encI (d.take i++zI (7-i))).set i (.i .i64 d[i])=encI (d.take (i+1)++zI (7-(i+1))):=by
   rw [aX];refine congrArg encI ?_;have h6:(d.take i).length=i:=by simp;omega
   rw [E4p _ _ (by omega),h6,E4y,E36 (by omega),E3U];refine congrArg (d.take i ++ ·) ?_;rw [show 7-i=7-(i+1)+1 by omega];unfold zI;rw [E4i,E4A];rfl
  rw [xO];simp only [esc,esh,Nat.reduceAdd,Nat.reduceMul,Nat.reduceLT,h1',hx,a1,ho,es,C6 (show i+1<9223372036854775808 by omega)];exact ih
theorem D9a {k l s p:Int} {d:List Int} (hd:d.length=7):ldN (rT (E6 k l s p d)) 4 6=some (.a (encI (d.take 6))):=by
 have h1:(E6 k l s p d).length=11:=by simp [A8,hd]
 simp only [ldN,E3X];rw [if_pos ⟨by omega,by simp⟩];simp only [List.drop_succ_cons,E39];unfold encI;rw [List.map_take]
theorem tK {k l s p:Int} {d:List Int} {h:A6} (hd:d.length=7):wN [.a (E6 k l s p d)] h=some (.a (encI d),h):=by
 have key:∀ N,7<N->∀ g,∃ g',wH N [.a (E6 k l s p d)] g=some (.a (encI d),g'):=by
  intro N hN g;have:=B6Q (g:=g) (k:=k) (l:=l) (s:=s) (p:=p) (z:=encI (zI 7)) (q:=N) hd (by rw [A8,G9]) 6 0 N (by omega) (by omega);have e0:encI (d.take 0++zI (7-0))=[o0,o0,o0,o0,o0,o0,o0]:=rfl;have e1:encI (zI 7)=[o0,o0,o0,o0,o0,o0,o0]:=rfl;rw [e0,e1] at this;rw [B2Z];exact ⟨_,by simp only [esc,esh,Nat.reduceAdd,Nat.reduceMul,Nat.reduceLT,D9a hd];exact this⟩
 obtain ⟨g',e⟩:=key (h.length+8) (by omega) (ro h);exact A8P e (by simp)
def D21 (l s p:Int) (d:List Int):Bool:=decide (l=0/\s=0/\p=0/\d=zI 7)
def A2f (k l s p:Int) (d:List Int):Bool:=decide (0<=k/\k<=2)&&(L8 l&&(L8 p&&(decide (0<=s/\s<=34304)&&d.all L8)))
def A1a (k l s p:Int) (d:List Int):Bool:=if k=0 then D21 l s p d else A2f k l s p d
theorem C0r {h:A6} {d:List Int} {q:Nat} (hd:d.length=7):∀ e i m:Nat,i+e=7->e<m ->
  A94 q m (.a (encI d)) (iV i) h=some (iV (bif (d.drop i).all L8 then 0 else 1),h)
 | e,i,0,_,hm=>by omega
 | 0,i,m+1,hi,hm=>by
  have c0:¬ (i:Int)<7:=by omega
  rw [A19,E32 (by omega)];simp only [esc,c0,List.all_nil]
 | e+1,i,m+1,hi,hm=>by
  have ih:=C0r (h:=h) (q:=q) hd e (i+1) m (by omega) (by omega);have c0:(i:Int)<7:=by omega
  have hx:A3f 7 (.a (encI d)) (iV (i:Int))=some (iV d[i]):=by
   rw [B6r (by omega),F0,E3P (by omega)];rfl
  rw [A19,E3V (by omega),E4x];cases c1:L8 d[i] with
  | true =>
   simp only [esc,c0,hx,W9,c1,E31,C6 (show i+1<9223372036854775808 by omega)];exact ih
  | false=>simp only [esc,c0,hx,W9,c1,E3W]
theorem D4i {k l s p k' l' s' p':Int} {d d':List Int} {neg:Bool} (hd:d.length=7) (hd':d'.length=7) :
  aeq neg [Sh.i .i64,.i .i64,.i .i64,.i .i64,.i .i64,.i .i64,.i .i64,.i .i64,.i .i64,.i .i64,.i .i64] (.a (E6 k l s p d)) (.a (E6 k' l' s' p' d'))=some (bV (bif neg then !decide (k::l::s::p::d=k'::l'::s'::p'::d') else decide (k::l::s::p::d=k'::l'::s'::p'::d'))):=by
 have h1:=D6F (l:=k::l::s::p::d) (m:=k'::l'::s'::p'::d') (n:=11) (by simp [hd]) (by simp [hd']);have h2:=E0l (l:=k::l::s::p::d) (m:=k'::l'::s'::p'::d') (n:=11) (by simp [hd]) (by simp [hd']);cases neg
 ·exact h2
 ·exact h1
theorem D22 {l s p:Int} {d:List Int}:decide ((0:Int)::l::s::p::d=0::0::0::0::zI 7)=D21 l s p d:=by
 unfold D21;simp
theorem A3Y:D9 [o0,o0,o0,o0,o0,o0,o0,o0,o0,o0,o0] []=some (E6 0 0 0 0 (zI 7)):=rfl
theorem A93 {k l s p:Int} {d:List Int} {h:A6} (hd:d.length=7):A23 [.a (E6 k l s p d)] h=some (iV (bif A1a k l s p d then 0 else 1),h):=by
 have hlen:(E6 k l s p d).length=11:=by simp [A8,hd]
 have key:∀ N,8<N->∀ g,∃ g',A2C N [.a (E6 k l s p d)] g=some (iV (bif A1a k l s p d then 0 else 1),g'):=by
  intro N hN g;have lp:=λg=>C0r (h:=g) (q:=N) hd 7 0 N (by omega) (by omega)
  simp only [E39,E4j] at lp;rw [B7z];unfold A1a;by_cases k0:k=0
  ·subst k0;rw [if_pos rfl];have c1:¬ (0:Int)<0:=by omega
   have c2:¬ (2:Int)<0:=by omega
   have hq:=D4i (k:=0) (l:=l) (s:=s) (p:=p) (k':=0) (l':=0) (s':=0) (p':=0) (neg:=true) hd (G9 (n:=7));simp only [cond_true,D22] at hq;cases hz:D21 l s p d with
   | false =>
    rw [hz] at hq;exact ⟨_,by simp only [esc,esh,Nat.reduceAdd,Nat.reduceMul,Nat.reduceLT,c1,c2,hlen,A3Y,hq]<;>rfl⟩
   | true =>
    rw [hz] at hq;have hz':=of_decide_eq_true hz;obtain ⟨rfl,rfl,rfl,rfl⟩:=hz';have sm:L8 0=true:=by decide
    have al:(zI 7).all L8=true:=by decide
    have c3:¬ (34304:Int)<0:=by omega
    rw [al] at lp;exact ⟨_,by simp only [esc,esh,Nat.reduceAdd,Nat.reduceMul,Nat.reduceLT,c1,c2,c3,hlen,A3Y,hq,W9,sm,tK hd,lp]<;>rfl⟩
  ·rw [if_neg k0];unfold A2f;by_cases c1:k<0
   ·rw [decide_eq_false (show ¬ (0<=k/\k<=2) by omega)];exact ⟨_,by simp only [esc,esh,Nat.reduceAdd,Nat.reduceMul,Nat.reduceLT,c1,E3W]<;>rfl⟩
   ·by_cases c2:2<k
    ·rw [decide_eq_false (show ¬ (0<=k/\k<=2) by omega)];exact ⟨_,by simp only [esc,esh,Nat.reduceAdd,Nat.reduceMul,Nat.reduceLT,c1,c2,E3W]<;>rfl⟩
    ·rw [decide_eq_true (show 0<=k/\k<=2 by omega),E31];cases sl:L8 l with
     | false=>exact ⟨_,by simp only [esc,esh,Nat.reduceAdd,Nat.reduceMul,Nat.reduceLT,c1,c2,k0,W9,sl,E3W]<;>rfl⟩
     | true =>
      cases sp:L8 p with
      | false=>exact ⟨_,by simp only [esc,esh,Nat.reduceAdd,Nat.reduceMul,Nat.reduceLT,c1,c2,k0,W9,sl,sp,E31,E3W]<;>rfl⟩
      | true =>
       by_cases c3:s<0
       ·rw [decide_eq_false (show ¬ (0<=s/\s<=34304) by omega)];exact ⟨_,by simp only [esc,esh,Nat.reduceAdd,Nat.reduceMul,Nat.reduceLT,c1,c2,k0,W9,sl,sp,c3,E31,E3W]<;>rfl⟩
       ·by_cases c4:34304<s
        ·rw [decide_eq_false (show ¬ (0<=s/\s<=34304) by omega)];exact ⟨_,by simp only [esc,esh,Nat.reduceAdd,Nat.reduceMul,Nat.reduceLT,c1,c2,k0,W9,sl,sp,c3,c4,E31,E3W]<;>rfl⟩
        ·rw [decide_eq_true (show 0<=s/\s<=34304 by omega)];exact ⟨_,by simp only [esc,esh,Nat.reduceAdd,Nat.reduceMul,Nat.reduceLT,c1,c2,k0,W9,sl,sp,c3,c4,E31,hlen,tK hd,lp]<;>rfl⟩
 obtain ⟨g',e⟩:=key (h.length+9) (by omega) (ro h);exact B3G e rfl
def qW (k l s p:Int):List UInt8:=A9 1 k++zeros 1++A9 2 l++A9 4 s++A9 2 p
def qL (d:List Int):List UInt8:=(d.map (A9 2)).flatten
def fO (k l s p:Int) (d:List Int):List UInt8:=qW k l s p++qL d++zeros 8
theorem eZ {k l s p:Int}:(qW k l s p).length=10:=by simp [qW]
theorem kD {d:List Int}:(qL d).length=2*d.length:=by
 unfold qL
 induction d with
 | nil=>rfl
 | cons x d ih=>simp only [E4R,E4L,E3S,O6,E3Z,ih];omega
theorem kC {k l s p:Int} {d:List Int} (hd:d.length=7):(fO k l s p d).length=32:=by
 unfold fO;rw [E3S,E3S,eZ,kD,zeros_length,hd]
theorem B87 {d:List Int} {x:Int}:qL (d++[x])=qL d++A9 2 x:=by simp [qL]
theorem D5I {k l s p:Int}:gH (gH (gH (gH (zeros 256) 0 1 k) 2 2 l) 4 4 s) 8 2 p=N5 256 (qW k l s p):=by
 rw [<-B6U];have h1:=gQ (l:=[]) (a:=0) (w:=1) (v:=k) (by simp) (by omega) (by omega) (by omega);have h2:=gQ (l:=[]++zeros (0-0)++A9 1 k) (a:=2) (w:=2) (v:=l) (by simp) (by omega) (by omega) (by omega);have h3:=gQ (l:=[]++zeros (0-0)++A9 1 k++zeros 1++A9 2 l) (a:=4) (w:=4) (v:=s) (by simp) (by omega) (by omega) (by omega);have h4:=gQ (l:=[]++zeros (0-0)++A9 1 k++zeros 1++A9 2 l++zeros 0++A9 4 s) (a:=8) (w:=2) (v:=p) (by simp) (by omega) (by omega) (by omega);simp only [E3S,E4h,zeros_length,O6,E4y,Nat.zero_sub,Nat.reduceAdd,Nat.reduceSub] at h1 h2 h3 h4;simp only [E4j] at h1 h2 h3 h4;rw [h1,h2,h3,h4]
 congr 1
theorem D2x {g:A6} {c0:List Cell} {B:List UInt8} {z:List Cell} {q:Nat} (hB:B.length=256) (hz:z.length=32):∀ e i m:Nat,i+e=32->e<m ->
  B6C q m (pV (g.length+1) 0) (pV (g.length+2) 0) (pV (g.length+3) 0) (iV i) (g++[rT c0,rT z,rT (A5 (B.take i++zeros (32-i))),rT (A5 B)]) =
   some (.t [.a (A5 (B.take 32)),.c o0],g++[rT c0,rT (A5 (B.take 32)),rT (A5 (B.take 32)),rT (A5 B)])
 | e,i,0,_,hm=>by omega
 | 0,i,m+1,hi,hm=>by
  have e0:i=32:=by omega
  subst e0;have h1':¬ ((32:Nat):Int)<32:=by omega
  have hl:(A5 (B.take 32)).length=32:=by rw [A4,E4k];omega
  have e1:A5 (B.take 32++zeros (32-32))=A5 (B.take 32):=by simp [zeros]
  rw [A7b,e1];simp only [esc,esh,Nat.reduceAdd,Nat.reduceMul,Nat.reduceLT,h1',hl,hz]
 | e+1,i,m+1,hi,hm=>by
  have ih:=D2x (g:=g) (c0:=c0) (q:=q) hB hz e (i+1) m (by omega) (by omega);have h1':(i:Int)<32:=by omega
  have a1:J2 256 1 (pV (g.length+3) 0) (iV (i:Int))=some (pV (g.length+3) i):=by rw [J3 (by omega)];simp
  have a2:J2 32 1 (pV (g.length+2) 0) (iV (i:Int))=some (pV (g.length+2) i):=by rw [J3 (by omega)];simp
  have l1:(A5 B)[i]?=some (.i .u8 B[i].toNat):=by rw [cC,E3P (by omega)];rfl
  have ho:i<(A5 (B.take i++zeros (32-i))).length:=by rw [A4,E3S,zeros_length,E4k];omega
  have es:(A5 (B.take i++zeros (32-i))).set i (.i .u8 B[i].toNat)=A5 (B.take (i+1)++zeros (32-(i+1))):=by
   rw [jV];refine congrArg A5 ?_;have h6:(B.take i).length=i:=by simp;omega
   rw [E4p _ _ (by omega),h6,E4y,E36 (by omega),E3U];refine congrArg (B.take i ++ ·) ?_;rw [show 32-i=32-(i+1)+1 by omega];unfold zeros;rw [E4i,E4A];rfl
  rw [A7b];simp only [esc,esh,Nat.reduceAdd,Nat.reduceMul,Nat.reduceLT,h1',a1,a2,l1,ho,es,C6 (show i+1<9223372036854775808 by omega)];exact ih
theorem D2y {g:A6} {k l s p:Int} {d:List Int} {c0 z:List Cell} {q:Nat} (hd:d.length=7) (hz:z.length=32) (hq:33<q):∀ e i m:Nat,i+e=7->e<m ->
  B6B q m (pV (g.length+1) 0) (pV (g.length+2) 0) (pV (g.length+3) 0) (.a (encI d)) (iV i) (g++[rT c0,rT z,rT (A5 (zeros 32)),rT (A5 (N5 256 (qW k l s p++qL (d.take i))))]) =
   some (.t [.a (A5 (fO k l s p d)),.c o0],g++[rT c0,rT (A5 (fO k l s p d)),rT (A5 (fO k l s p d)),rT (A5 (N5 256 (qW k l s p++qL d)))])
 | e,i,0,_,hm=>by omega
 | 0,i,m+1,hi,hm=>by
  have e0:i=7:=by omega
  subst e0;have h1':¬ ((7:Nat):Int)<7:=by omega
  rw [E3Y (by omega)];have hlen:(qW k l s p++qL d).length=24:=by rw [E3S,eZ,kD,hd]
  have:=D2x (g:=g) (c0:=c0) (z:=z) (q:=q) (B:=N5 256 (qW k l s p++qL d)) (F5 (by omega)) hz 32 0 q (by omega) (by omega);have e1:(N5 256 (qW k l s p++qL d)).take 32=fO k l s p d:=by
   unfold N5 fO;rw [List.take_append,E3Y (by omega),hlen];refine congrArg (qW k l s p++qL d ++ ·) ?_;unfold zeros;rw [List.take_replicate];rfl
  rw [e1] at this;simp only [E4P,E37,Nat.sub_zero] at this;rw [A7a];simp only [esc,h1'];exact this
 | e+1,i,m+1,hi,hm=>by
  have ih:=D2y (g:=g) (k:=k) (l:=l) (s:=s) (p:=p) (c0:=c0) hd hz hq e (i+1) m (by omega) (by omega);have h1':(i:Int)<7:=by omega
  have hx:A3f 7 (.a (encI d)) (iV (i:Int))=some (iV d[i]):=by
   rw [B6r (by omega),F0,E3P (by omega)];rfl
  have hlen:(qW k l s p++qL (d.take i)).length=10+2*i:=by rw [E3S,eZ,kD,E4k];omega
  have hL:(A5 (N5 256 (qW k l s p++qL (d.take i)))).length=256:=by rw [A4,F5 (by omega)]
  have e2:IntKind.wrap .i64 (2*(i:Int))=((2*i:Nat):Int):=by rw [wrap_i64 (by omega) (by omega)];omega
  have e3:IntKind.wrap .i64 (10+((2*i:Nat):Int))=((10+2*i:Nat):Int):=by rw [wrap_i64 (by omega) (by omega)];omega
  have hw:=X4 (l:=N5 256 (qW k l s p++qL (d.take i))) (h:=g++[rT c0,rT z,rT (A5 (zeros 32)),rT (A5 (N5 256 (qW k l s p++qL (d.take i))))]) (F5 (by omega)) (a:=((10+2*i:Nat):Int)) (w:=2) (v:=d[i]);have e4:=gQ (l:=qW k l s p++qL (d.take i)) (a:=10+2*i) (w:=2) (v:=d[i]) (by omega) (by omega) (by omega) (by omega);rw [show ((2:Nat):Int)=2 from rfl,hlen,E4y,show zeros 0=[] from rfl,E4f,E3U,<-B87,<-E36 (by omega)] at e4;rw [e4] at hw;have hL':(A5 (N5 256 (qW k l s p++qL (d.take (i+1))))).length=256:=by
   rw [A4,F5 (by rw [E3S,eZ,kD,E4k];omega)]
  rw [A7a];simp only [esc,esh,Nat.reduceAdd,Nat.reduceMul,Nat.reduceLT,h1',hx,hL,e2,e3,hw,hL',C6 (show i+1<9223372036854775808 by omega)];exact ih
theorem B6A {k l s p:Int} {d:List Int} {h:A6} (hd:d.length=7) :
  A8Q [.a (E6 k l s p d)] h=some (.t [.a (A5 (bif A1a k l s p d then fO k l s p d else zeros 32)),.c (.i .i64 (bif A1a k l s p d then 0 else 1))],h):=by
 have hlen:(E6 k l s p d).length=11:=by simp [A8,hd]
 have key:∀ N,33<N->∀ g,∃ g',A71 N [.a (E6 k l s p d)] g=some (.t [.a (A5 (bif A1a k l s p d then fO k l s p d else zeros 32)),.c (.i .i64 (bif A1a k l s p d then 0 else 1))],g'):=by
  intro N hN g;have hz:(A5 (zeros 32)).length=32:=by rw [A4];exact zeros_length
  have hz2:(A5 (zeros 256)).length=256:=by rw [A4];exact zeros_length
  rw [C3q,I3,I3];cases c:A1a k l s p d with
  | false =>
   generalize zeros 32=z at *;generalize zeros 256=y at *;exact ⟨_,by simp only [esc,esh,Nat.reduceAdd,Nat.reduceMul,Nat.reduceLT,hlen,A93 hd,c,hz,E4V]<;>rfl⟩
  | true =>
   have:=D2y (g:=g) (k:=k) (l:=l) (s:=s) (p:=p) (c0:=E6 k l s p d) (z:=A5 (zeros 32)) (q:=N) hd hz hN 7 0 N (by omega) (by omega);simp only [E4P,show qL []=[] from rfl,E4f] at this;have w1:=λh=>X4 (h:=h) (l:=zeros 256) zeros_length (a:=0) (w:=1) (v:=k)
   have w2:=λh=>X4 (h:=h) (l:=gH (zeros 256) 0 1 k) (S5 zeros_length) (a:=2) (w:=2) (v:=l)
   have w3:=λh=>X4 (h:=h) (l:=gH (gH (zeros 256) 0 1 k) 2 2 l) (S5 (S5 zeros_length)) (a:=4) (w:=4) (v:=s)
   have w4:=λh=>X4 (h:=h) (l:=gH (gH (gH (zeros 256) 0 1 k) 2 2 l) 4 4 s) (S5 (S5 (S5 zeros_length))) (a:=8) (w:=2) (v:=p)
   have l1:(A5 (gH (zeros 256) 0 1 k)).length=256:=by rw [A4,S5 zeros_length]
   have l2:(A5 (gH (gH (zeros 256) 0 1 k) 2 2 l)).length=256:=by rw [A4,S5 (S5 zeros_length)]
   have l3:(A5 (gH (gH (gH (zeros 256) 0 1 k) 2 2 l) 4 4 s)).length=256:=by rw [A4,S5 (S5 (S5 zeros_length))]
   have l4:(A5 (N5 256 (qW k l s p))).length=256:=by rw [A4,F5 (by rw [eZ];omega)]
   simp only [D5I] at w4;generalize zeros 32=z at *;generalize zeros 256=y at *;exact ⟨_,by simp only [esc,esh,Nat.reduceAdd,Nat.reduceMul,Nat.reduceLT,hlen,A93 hd,c,hz,hz2,w1,w2,w3,w4,l1,l2,l3,l4,tK hd];exact this⟩
 obtain ⟨g',e⟩:=key (h.length+34) (by omega) (ro h);exact B8q e (by simp)
def oU (b:List UInt8):Int:=fieldN b 0 1
def qH (b:List UInt8):Int:=fieldN b 2 2
def qJ (b:List UInt8):Int:=fieldN b 4 4
def qI (b:List UInt8):Int:=fieldN b 8 2
def J9 (b:List UInt8):List Int:=(E4m 7).map λj=>fieldN b (10+2*j) 2
theorem E3 {b:List UInt8}:(J9 b).length=7:=by simp [J9]
theorem B0Q {b:List UInt8} {i:Nat} (hi:i<7):(J9 b)[i]?=some (fieldN b (10+2*i) 2):=by simp [J9,hi]
theorem B6y {k l s p x:Int} {d:List Int} {i:Nat}:(E6 k l s p d).set (4+i) (.i .i64 x)=E6 k l s p (d.set i x):=by
 rw [show 4+i=i+1+1+1+1 by omega];simp only [E6,E4B,aX]
theorem yY {D:List Int} (hD:D.length=7) {i:Nat} (hi:i<7):(D.take i++zI (7-i)).set i D[i]=D.take (i+1)++zI (7-(i+1)):=by
 have h6:(D.take i).length=i:=by simp;omega
 rw [E4p _ _ (by omega),h6,E4y,E36 (by omega),E3U];refine congrArg (D.take i ++ ·) ?_;rw [show 7-i=7-(i+1)+1 by omega];unfold zI;rw [E4i,E4A];rfl
theorem C8Z {g:A6} {b:List UInt8} {k l s p:Int} {c0 z:List Cell} {q:Nat} (hb:b.length=32) (hz:z.length=11):∀ e i m:Nat,i+e=6->e<m ->
  B6z q m (pV (g.length+1) 0) (pV (g.length+2) 0) (pV (g.length+3) 0) (iV i) (g++[rT c0,rT z,rT (A5 (N5 256 b)),rT (E6 k l s p ((J9 b).take i++zI (7-i)))]) =
   some (.a (E6 k l s p (J9 b)),g++[rT c0,rT (E6 k l s p (J9 b)),rT (A5 (N5 256 b)),rT (E6 k l s p (J9 b))])
 | e,i,0,_,hm=>by omega
 | 0,i,m+1,hi,hm=>by
  have e0:i=6:=by omega
  subst e0;have h1':¬ ((6:Nat):Int)<6:=by omega
  have hX:(A5 (N5 256 b)).length=256:=by rw [A4,F5 (by omega)]
  have ha:=λh=>lQ (h:=h) (l:=N5 256 b) (F5 (by omega)) (a:=22) (w:=2)
  have e1:=D3a (b:=b) (a:=22) (w:=2) (by omega) (by omega) (by omega) (by omega);simp only [E4j] at e1;simp only [e1] at ha;have hl0:(E6 k l s p ((J9 b).take 6++zI (7-6))).length=11:=by simp [A8,E3,G9]
  have ho:(encI ((J9 b).take 6++zI (7-6))).length=7:=by simp [A8,E3,G9]
  have hg6:(J9 b)[6]'(by rw [E3];omega)=fieldN b 22 2:=by
   have:=B0Q (b:=b) (i:=6) (by omega);rw [E3P (by rw [E3];omega)] at this;exact Option.some.inj this
  have es:(E6 k l s p ((J9 b).take 6++zI (7-6))).set 10 (.i .i64 (fieldN b 22 2))=E6 k l s p (J9 b):=by
   have h1:=B6y (k:=k) (l:=l) (s:=s) (p:=p) (x:=fieldN b 22 2) (d:=(J9 b).take 6++zI (7-6)) (i:=6);rw [show 4+6=10 from rfl] at h1;rw [h1,<-hg6,yY E3 (by omega)];have:(J9 b).take (6+1)++zI (7-(6+1))=J9 b:=by rw [E3Y (by rw [E3];omega)];simp [zI]
   rw [this]
  have hl1:(E6 k l s p (J9 b)).length=11:=by simp [A8,E3]
  rw [A69];simp only [esc,esh,Nat.reduceAdd,Nat.reduceMul,Nat.reduceLT,h1',hX,ha,ho,es,hl1,hz,A8,E3]
 | e+1,i,m+1,hi,hm=>by
  have ih:=C8Z (g:=g) (k:=k) (l:=l) (s:=s) (p:=p) (c0:=c0) (q:=q) hb hz e (i+1) m (by omega) (by omega);have h1':(i:Int)<6:=by omega
  have hX:(A5 (N5 256 b)).length=256:=by rw [A4,F5 (by omega)]
  have e2:IntKind.wrap .i64 (2*(i:Int))=((2*i:Nat):Int):=by rw [wrap_i64 (by omega) (by omega)];omega
  have e3:IntKind.wrap .i64 (10+((2*i:Nat):Int))=((10+2*i:Nat):Int):=by rw [wrap_i64 (by omega) (by omega)];omega
  have ha:=λh=>lQ (h:=h) (l:=N5 256 b) (F5 (by omega)) (a:=((10+2*i:Nat):Int)) (w:=2)
  have e1:=D3a (b:=b) (a:=10+2*i) (w:=2) (by omega) (by omega) (by omega) (by omega);rw [show ((2:Nat):Int)=2 from rfl] at e1;simp only [e1] at ha;have a1:J2 6 1 (pV (g.length+3) 4) (iV (i:Int))=some (pV (g.length+3) (4+i)):=by rw [J3 (by omega)];simp
  have ho:(encI ((J9 b).take i++zI (7-i))).length=7:=by simp [A8,E3,G9];omega
  have ho2:4+i<11:=by omega
  have hgi:(J9 b)[i]'(by rw [E3];omega)=fieldN b (10+2*i) 2:=by
   have:=B0Q (b:=b) (i:=i) (by omega);rw [E3P (by rw [E3];omega)] at this;exact Option.some.inj this
  have es:(E6 k l s p ((J9 b).take i++zI (7-i))).set (4+i) (.i .i64 (fieldN b (10+2*i) 2))=E6 k l s p ((J9 b).take (i+1)++zI (7-(i+1))):=by
   rw [B6y,<-hgi,yY E3 (by omega)]
  rw [A69];simp only [esc,esh,Nat.reduceAdd,Nat.reduceMul,Nat.reduceLT,h1',hX,e2,e3,ha,a1,ho,ho2,es,C6 (show i+1<9223372036854775808 by omega)];exact ih
theorem A58 {b:List UInt8} {h:A6} (hb:b.length=32):A8O [.a (A5 b)] h=some (.a (E6 (oU b) (qH b) (qJ b) (qI b) (J9 b)),h):=by
 have key:∀ N,7<N->∀ g,∃ g',A70 N [.a (A5 b)] g=some (.a (E6 (oU b) (qH b) (qJ b) (qI b) (J9 b)),g'):=by
  intro N hN g;have hl:(A5 b).length=32:=by rw [A4,hb]
  have hX:(A5 (N5 256 b)).length=256:=by rw [A4,F5 (by omega)]
  have hz:(E3Q 256 (Cell.i .u8 0)).length=256:=E4g;have z11:[o0,o0,o0,o0,o0,o0,o0,o0,o0,o0,o0]=E6 0 0 0 0 (zI 7):=rfl;have l11:(E6 0 0 0 0 (zI 7)).length=11:=rfl;have ho:=B0X (h:=g++[rT (A5 b),rT (E6 0 0 0 0 (zI 7))]) (v:=sV g.length 0 32 1) (nv:=32) (data:=b) (Has.tr (by simp) (by omega) (F6 _)) (by omega);rw [C52 (by omega)] at ho;have at_:∀ (a w:Nat),a+w<=32->1<=w->w<=4->∀ h,B5G [.a (A5 (N5 256 b)),iV a,iV w] h=some (iV (fieldN b a w),h):=λa w h1 h2 h3 h=>by
   rw [lQ (F5 (by omega)),D3a (by omega) (by omega) h2 h3]
  have a1:=at_ 0 1 (by omega) (by omega) (by omega);have a2:=at_ 2 2 (by omega) (by omega) (by omega);have a3:=at_ 4 4 (by omega) (by omega) (by omega);have a4:=at_ 8 2 (by omega) (by omega) (by omega);simp only [E4j] at a1 a2 a3 a4;have ef:D9 (E6 0 0 0 0 (zI 7)) [(0,1,iV (fieldN b 0 1)),(1,1,iV (fieldN b 2 2)),(2,1,iV (fieldN b 4 4)),(3,1,iV (fieldN b 8 2))]=some (E6 (oU b) (qH b) (qJ b) (qI b) (zI 7)):=rfl;have lf:(E6 (oU b) (qH b) (qJ b) (qI b) (zI 7)).length=11:=rfl;have:=C8Z (g:=g) (b:=b) (k:=oU b) (l:=qH b) (s:=qJ b) (p:=qI b) (c0:=A5 b) (z:=E6 0 0 0 0 (zI 7)) (q:=N) hb l11 6 0 N (by omega) (by omega);simp only [E4P,E37,Nat.sub_zero] at this;rw [C3p,z11];generalize E3Q 256 (Cell.i .u8 0)=z at *;generalize E6 0 0 0 0 (zI 7)=y at *;exact ⟨_,by simp only [esc,esh,Nat.reduceAdd,Nat.reduceMul,Nat.reduceLT,hl,ho,hz,hX,a1,a2,a3,a4,ef,l11,lf];exact this⟩
 obtain ⟨g',e⟩:=key (h.length+8) (by omega) (ro h);exact B8p e (by simp)
def gZ (b:List UInt8):Bool:=A1a (oU b) (qH b) (qJ b) (qI b) (J9 b)&&decide (fO (oU b) (qH b) (qJ b) (qI b) (J9 b)=b)
def cZ (b:List UInt8):List Cell:=bif gZ b then E6 (oU b) (qH b) (qJ b) (qI b) (J9 b) else E6 0 0 0 0 (zI 7)
theorem uL {b:List UInt8}:(cZ b).length=11:=by
 unfold cZ;cases gZ b<;>simp [A8,E3,G9]
theorem yS {b:List UInt8}:N3 (cZ b)=true:=by
 unfold cZ;cases gZ b<;>simp
theorem C5C {b:List UInt8} {h:A6} (hb:b.length=32):A24 [.a (A5 b)] h=some (.t [.a (cZ b),.c (.b (gZ b))],h):=by
 have key:∀ g,∃ g',A2D 0 [.a (A5 b)] g=some (.t [.a (cZ b),.c (.b (gZ b))],g'):=by
  intro g;have hl:(A5 b).length=32:=by rw [A4,hb]
  have hI:(E6 (oU b) (qH b) (qJ b) (qI b) (J9 b)).length=11:=by simp [A8,E3]
  have z11:[o0,o0,o0,o0,o0,o0,o0,o0,o0,o0,o0]=E6 0 0 0 0 (zI 7):=rfl;have l11:(E6 0 0 0 0 (zI 7)).length=11:=rfl;have af:=A3Y;rw [z11] at af;have hz:(E3Q 32 (Cell.i .u8 0)).length=32:=E4g;have hp:=λh=>B6A (h:=h) (k:=oU b) (l:=qH b) (s:=qJ b) (p:=qI b) (d:=J9 b) E3
  have hB:(A5 (fO (oU b) (qH b) (qJ b) (qI b) (J9 b))).length=32:=by rw [A4,kC E3]
  have hZ:(A5 (zeros 32)).length=32:=by rw [A4];exact zeros_length
  have hq:=D4j (l:=fO (oU b) (qH b) (qJ b) (qI b) (J9 b)) (m:=b) (n:=32) (kC E3) hb;rw [B7A,z11];unfold cZ gZ;generalize E3Q 32 (Cell.i .u8 0)=z at *;generalize E6 0 0 0 0 (zI 7)=y at *;cases c:A1a (oU b) (qH b) (qJ b) (qI b) (J9 b) with
  | false =>
   simp only [c,cond_false] at hp;exact ⟨_,by simp only [esc,esh,Nat.reduceAdd,Nat.reduceMul,Nat.reduceLT,hl,A58 hb,hI,l11,hp,hz,hZ,E4V,af,E3W]<;>rfl⟩
  | true =>
   simp only [c,cond_true] at hp;cases c2:decide (fO (oU b) (qH b) (qJ b) (qI b) (J9 b)=b) with
   | false =>
    rw [c2] at hq;exact ⟨_,by simp only [esc,esh,Nat.reduceAdd,Nat.reduceMul,Nat.reduceLT,hl,A58 hb,hI,l11,hp,hz,hB,hq,af,E4O]<;>rfl⟩
   | true =>
    rw [c2] at hq;exact ⟨_,by simp only [esc,esh,Nat.reduceAdd,Nat.reduceMul,Nat.reduceLT,hl,A58 hb,hI,l11,hp,hz,hB,hq,Bool.and_true]<;>rfl⟩
 obtain ⟨g',e⟩:=key (ro h);exact B3H e (by simp [yS])
end Go.Proofs.YtbnkgnfhgbhblaaGreat
namespace Go.Proofs.YtbnkgnfhgbhblaaGreat
open Go Go.Esc
set_option maxRecDepth 100000
noncomputable section
variable (n m m2:Nat) (a0 a1 a2 x1 x2 x3 x4 x5 x6 x7 x8 x9 x10 x11 x12 x15 x16 x17 x20 x21:Val) (h:A6)
def uA:FD Tryz.prog:=⟨px 0X138211688068861c044c52121062ec2112,[],[.min (.t 4) (.v (.c (.i .i64 5))),.max (.v (.c o0)) (.t 5)],[.tmp 2],[]⟩
def A2z:=uA.R
def B7w:=mR A2z uA (tT []) n [a0] h
def B1y:=uA.K Tryz.func168
def A20:=uA.S
theorem aK:SOk Tryz.prog 168 A20:=B1y.sok
theorem B3D:E5 A2z A20:=B1y.flat
def yA:FD Tryz.prog:=⟨px 0X14821361e2a87ffffd6191b7f01b3601647c0072123211012,[.c (.b false)],[],[.tmp 2],[]⟩
def B5a:=yA.R
def C1s:=mR B5a yA (tT []) n [a0] h
def B4T:=yA.K Tryz.func169
def A5E:=yA.S
theorem A6J:SOk Tryz.prog 169 A5E:=B4T.sok
theorem B5B:E5 B5a A5E:=B4T.flat
def nW:FD Tryz.prog:=⟨px 0X11312184881de284884c393322229c2d157a07c2182284881de6191a2e421ac380628907c61967c2c0284883d39718015312184881de01c3e8332222462bc6131ac3839133b2d2c6542722d2c6542631c801bc511e2a484981a042d2c654262152d2c4243070242d2c4243289617c12e2d2c42522d2c42406051064838142b4d32d2c4242422319824881de11c142df65291e421ac61c044c6111ac64ac1f131b127113104194101d48b7219421330153125a4881de01c3e8332222461e37c16101ac4493861c0474d40191b21332123101c2d862ec32122,[.c (.i .u8 105),.c (.i .u8 100),.c (.i .u8 120),.c (.i .u8 33)],[],[.cellN 2 256,.tmp 3],[cal aK,cal A1L,cal uJ,cal A6J]⟩
def A7Y:=nW.R
def B6w:AtH:=nW.lj 0 n [m] [x2,x4,x20,x21]
def C0d:=tT [⟨2,4,B6w⟩]
def C3o:=mR A7Y nW C0d n [a0] h
def A68:=mL nW C0d 0 n [m] [x2,x4,x20,x21] h
def B9H:=nW.K Tryz.func103
def A8M:=nW.S
theorem A8N:SOk Tryz.prog 103 A8M:=B9H.sok
theorem B8k:E5 A7Y A8M:=B9H.flat
def yB:FD Tryz.prog:=⟨px 0X13821651b7c64c86101ac4493852121062ec2112,[],[],[.tmp 2],[cal aK]⟩
def A49:=yB.R
def C1t:=mR A49 yB (tT []) n [a0] h
def B4U:=yB.K Tryz.func163
def A5F:=yB.S
theorem bO:SOk Tryz.prog 163 A5F:=B4U.sok
theorem B5C:E5 A49 A5F:=B4U.flat
def eQ:FD Tryz.prog:=⟨px 0X1131218491de28496939332222d81815607c48591318017931218491de01f3e833222241637c61c1a614828c1284c485b155f1842423518423327024289617c484f12581842421842331842316252b81816121ac28494d3931842324223017931218491de01f3e83322224632a2a807e68b44887e3b384887e3b601637c3c3d174b423242231e801dc24881de1c62d912a6801e3b691d83816111ac284939391876421521bc1c155e07c2181a21fa3e614828c1284c1962a301ac628907c61967c6a04488385a1f1191878511a021c542152151c42143070241c42143289617c11d1c421521c4214060511c111c42142421335c2491de1f42d961011f3e85296301ac44881939542132101f2d862ec32122,[.c (.b true)],[.eqA true (E3Q 256 (.i .u8)) (.t 32) (.t 33)],[.cellN 2 33,.tmp 3],[cal vC,cal A8N,cal bO]⟩
def A7X:=eQ.R
def B6t:AtH:=eQ.lj 0 n [m] [x1,x2,x4,x12]
def B6u:AtH:=eQ.lj 1 n [m] [x2,x4,x8]
def A9a:=tT [⟨2,4,B6t⟩,⟨2,3,B6u⟩]
def C3n:=mR A7X eQ A9a n [a0] h
def A64:=mL eQ A9a 0 n [m] [x1,x2,x4,x12] h
def A65:=mL eQ A9a 1 n [m] [x2,x4,x8] h
def B9G:=eQ.K Tryz.func99
def A8L:=eQ.S
theorem C35:SOk Tryz.prog 99 A8L:=B9G.sok
theorem B8i:E5 A7X A8L:=B9G.flat
def gK:FD Tryz.prog:=⟨px 0X1741141219c7156a02b7d2180134114122462e27c161c1a614828c16e4c4061c1a614828c14e4c2e1a1180192a7621534c511a02765215215762143070247621431a617c11876215276214060510461276214203341022ed22122,[.c (.b false),.c (.b true)],[],[.tmp 4],[]⟩
def A2A:=gK.R
def A91:AtH:=gK.lj 0 n [m] [x1,x2,x6,x7]
def B1V:=tT [⟨2,4,A91⟩]
def B7x:=mR A2A gK B1V n [a0,a1] h
def A17:=mL gK B1V 0 n [m] [x1,x2,x6,x7] h
def B1z:=gK.K Tryz.func170
def A21:=gK.S
theorem A3W:SOk Tryz.prog 170 A21:=B1z.sok
theorem B3E:E5 A2A A21:=B1z.flat
def dL:FD Tryz.prog:=⟨px 0X12bc61484f1261229819161a07c3c04c4814182b818161e13cc61011113fc4c0484b151815191873430702461e17c6101ac1c49384c3c143f1918735219187343191873406051dc19161a187c3c04391419187342181313b8118731421c871651b7c64c8168806886111ac1c4938182a1187313201163b9161224632e2a861e4387f610381af5e49383b4383601617c41a118293214232133163b9032ed232132,[.c (.b true)],[.min (.t 18) (.t 20),.max (.v (.c o0)) (.t 21)],[.tmp 6],[cal bO,cal aK]⟩
def A0d:=dL.R
def A67:AtH:=dL.lj 0 n [m] [x3,x7,x8,x9]
def A9b:=tT [⟨2,4,A67⟩]
def B49:=mR A0d dL A9b n [a0,a1,a2] h
def B4e:=mL dL A9b 0 n [m] [x3,x7,x8,x9] h
def A7G:=dL.K Tryz.func209
def A0s:=dL.S
theorem A1K:SOk Tryz.prog 209 A0s:=A7G.sok
theorem B3B:qT A0d A0s:=A7G.out
def gL:FD Tryz.prog:=⟨px 0X176116121ac1b155a02d7d2180136116122461a37c18061c1a614828c16e4c3e1f162c1b1a1932627818161c1a2a119831b1a19183262151b1a193253070241b1a1932531a617c11c1b1a1932621b1a1932506051061c8419131b1a19325203361032ed232132,[.c (.b false),.c (.b true)],[],[.tmp 6],[]⟩
def A2B:=gL.R
def A92:AtH:=gL.lj 0 n [m] [x2,x3,x9,x10,x11]
def B1W:=tT [⟨2,5,A92⟩]
def B7y:=mR A2B gL B1W n [a0,a1,a2] h
def A18:=mL gL B1W 0 n [m] [x2,x3,x9,x10,x11] h
def B1A:=gL.K Tryz.func241
def A22:=gL.S
theorem B8m:SOk Tryz.prog 241 A22:=B1A.sok
theorem B3F:E5 A2B A22:=B1A.flat
def kW:FD Tryz.prog:=⟨px 0X12bc416111ac18494e3934122ac28151ae04d7d218012a8412c0241224765e2a862e4e33691af26691f1a61486928f118694f469361a1e32691af2c69346931849693b1849693b601637c61c1a614828c1184c42b11f0194b281f52163198511a02281f5215215281f214307024281f21431a617c129281f2152281f2140605106111ac6a491e393281f214221301141141224632e2a861e4287f610281af4a49283b4283601617c461181d21322123141022ed22122,[.c (.b true),.c (.b false)],[],[.tmp 4],[cal bO,cal aK,cal A1K,cal B8m]⟩
def A48:=kW.R
def B2l:AtH:=kW.lj 0 n [m] [x1,x2,x15,x16]
def B5T:=tT [⟨2,4,B2l⟩]
def C1r:=mR A48 kW B5T n [a0,a1] h
def A4o:=mL kW B5T 0 n [m] [x1,x2,x15,x16] h
def B4S:=kW.K Tryz.func210
def A5D:=kW.S
theorem C12:SOk Tryz.prog 210 A5D:=B4S.sok
theorem B5A:E5 A48 A5D:=B4S.flat
def aC:FD Tryz.prog:=⟨px 0X11ac412c2d124121a819155e02c7d218019c515607c6e03182461a27c4061c1a614828c15e4c3a1c16291918521625c611a021918652162151918521511a070241918521531a617c11a191852162191852150605106101ac2e49739319185215251310152132141022ed22122,[],[],[.tmp 4],[cal bO]⟩
def A2y:=aC.R
def A9Z:AtH:=aC.lj 0 n [m] [x1,x2,x5,x8,x9]
def C5A:AtH:=aC.lj 1 n [m] [x1,x2,x5,x8,x9]
def A3d:=tT [⟨2,5,A9Z⟩,⟨2,5,C5A⟩]
def B7v:=mR A2y aC A3d n [a0,a1] h
def A16:=mL aC A3d 0 n [m] [x1,x2,x5,x8,x9] h
def A15:=mJ aC A3d 1 n [m] [x1,x2,x5,x8,x9] h
def B1x:=aC.K Tryz.func211
def A2Z:=aC.S
theorem B8l:SOk Tryz.prog 211 A2Z:=B1x.sok
theorem B3C:E5 A2y A2Z:=B1x.flat
def eK:FD Tryz.prog:=⟨px 0X1218491de1c496c39221239c291529a07c21801a21fa1e614828c11c4c2c028051824636a2a862a218c7f261a2618c1af2c18c344918c3b618c1cb62a2e3518c1af61a2418c1af2818c344918c3b2818c344918c3b6061a231ac280449381e0195e29285432118301724632a2a866c2bf6126c1af2c6c3601627c2c38173e292854321182292854321731bc5161c1a614828c144c282c152928543217219c411a022928432162152928321511a070242928321531a617c12a292832162292832150605106111ac4491f3932928321523223782491de1f32d961011f3e861c044c5321320124e491de01f3e822122461e37c16101ac4493861c0464d40191a213321231f2d862ec22122,[.c (.b true)],[],[.cellN 2 33],[cal aK,cal bO,cal A6J,cal A3W,cal C12,cal A1K,cal B8l]⟩
def A7W:=eK.R
def yW:AtH:=eK.lj 0 n [m] [x1,x2,x3,x16,x17]
def D0o:AtH:=eK.lj 1 n [m] [x1,x2,x3,x16,x17]
def A89:=tT [⟨2,5,yW⟩,⟨2,5,D0o⟩]
def C3m:=mR A7W eK A89 n [a0] h
def A63:=mL eK A89 0 n [m] [x1,x2,x3,x16,x17] h
def gC:=mJ eK A89 1 n [m] [x1,x2,x3,x16,x17] h
def B9F:=eK.K Tryz.func164
def A8K:=eK.S
theorem C34:SOk Tryz.prog 164 A8K:=B9F.sok
theorem B8h:E5 A7W A8K:=B9F.flat
def U5:FD Tryz.prog:=⟨px 0X11e8211c3c122121dc7153c03b7d21801d83163a13cc61011113fc61c1a614828c144c2801c0181824362a2a861a213f1af6e3f34493f3b601637c61c1a614828c144c3a1a11a2b76431624c411a027643152157631411a070247631431a617c118763152763140605106101ac449539376314231313b81312213b862ec2112,[.c (.b false)],[],[.tmp 2],[cal bO,cal A3W]⟩
def wG:=U5.R
def tJ:AtH:=U5.lj 0 n [m] [x1,x3,x6,x7]
def B86:AtH:=U5.lj 1 n [m] [x1,x3,x6,x7]
def wP:=tT [⟨2,4,tJ⟩,⟨2,4,B86⟩]
def B2Y:=mR wG U5 wP n [a0] h
def xN:=mL U5 wP 0 n [m] [x1,x3,x6,x7] h
def mK:=mJ U5 wP 1 n [m] [x1,x3,x6,x7] h
def A6x:=U5.K Tryz.func104
def wM:=U5.S
theorem nI:SOk Tryz.prog 104 wM:=A6x.sok
theorem B1h:qT wG wM:=A6x.out
def tZ:FD Tryz.prog:=⟨px 0X1484161e211ac6101ac2a4938405412141022ed22122,[],[],[.tmp 4],[cal aK,cal C9Y]⟩
def A2x:=tZ.R
def B7u:=mR A2x tZ (tT []) n [a0,a1] h
def B1w:=tZ.K Tryz.func148
def A2Y:=tZ.S
theorem B8j:SOk Tryz.prog 148 A2Y:=B1w.sok
theorem B3A:E5 A2x A2Y:=B1w.flat
end
end Go.Proofs.YtbnkgnfhgbhblaaGreat
namespace Go.Proofs.YtbnkgnfhgbhblaaGreat
open Go Go.Esc
theorem D3S {h:A6} {id n sz:Nat} {cs ys:List Cell} (hr:rd h id=rT cs) (hl:cs.length=n*sz) (hy:ys.length=sz) (hsz:0<sz) (hn:n+1<=1073741824) :
  ∃ h',iY (h++[rT ys]) sz (sV id 0 n sz) (sV h.length 0 1 sz)=some (sV (h.length+1) 0 (n+1) sz,h')/\rd h' (h.length+1)=rT (cs++ys)/\(∀ i r,i≠id->rd h i=some r->rd h' i=some r)/\(∀ b,b<=id->b<=h.length->Low b h h'):=by
 have V7:=C4 hr;refine ⟨(h++[rT ys]).set id none++[rT (cs++ys)],?_,?_,λi r hi hir=>?_,λb hb hb2=>(((Low.refl hb2).new _).set hb none).new _⟩
 ·rw [jL (h:=h++[rT ys]) (m:=1) (B7 hr) hl S9 (by omega) rfl hsz hn];simp
 ·have:=S9 (h:=(h++[rT ys]).set id none) (r:=Row.mk (cs++ys) true);rw [E4o] at this;simpa using this
 ·refine B7 ?_;rw [A7 (Ne.symm hi)];exact B7 hir
theorem D8N {h:A6} {jd m sz:Nat} {ys:List Cell} (hy:rd h jd=rT ys) (hyl:ys.length=m*sz) (hsz:0<sz) (hn:m<=1073741824) :
  iY h sz (.c .ns) (sV jd 0 m sz)=some (sV h.length 0 m sz,h++[rT ys]):=by
 have h2:O4 h sz (sV jd 0 m sz)=some ys:=by
  simp only [O4,if_true,fV,hy,E3X,E39,E4b];rw [<-hyl,List.take_length,if_pos ⟨E3T _,rfl⟩]
 have e1:ys.length/sz=m:=by rw [hyl];exact Nat.mul_div_cancel _ hsz
 simp only [iY,h2,E3X];rw [e1,if_pos hn]
def U8 (d:Int):Nat:=(max 0 (min d 5)).toNat
theorem qD (d:Int):U8 d<=5:=by unfold U8;omega
theorem B0L {d:Int} (h0:0<=d) (h5:d<=5):((U8 d:Nat):Int)=d:=by unfold U8;omega
theorem D62 (d:Int):(max 0 (min d 5))=((U8 d:Nat):Int):=by unfold U8;omega
def B9 (d:Int):Nat:=2 ^ U8 d
theorem C6c {n:Nat} (h:n<=5):2 ^ n<=32:=by
 have:=Nat.pow_le_pow_right (n:=2) (by omega) h;simpa using this
theorem N4 (d:Int):B9 d<=32:=C6c (qD d)
theorem B0w:[o0]++E3Q 32 o0=encI (0::zI 32):=by
 simp [encI,zI]
def toX (t:List Int) (i:Nat):Int:=t.getD i 0
theorem D9O {t:List Int} {i:Nat} (h:i<t.length):t[i]?=some (toX t i):=by
 unfold toX;rw [E30,E3P h];rfl
def tE (n:Int):Bool:=decide (0<=n)&&decide (n<=65535)
theorem B2m {n:Int} {h:A6}:A5E [iV n] h=some (bV (tE n),h):=by
 refine B5B (n:=0) (h2:=ro h) ?_ rfl;rw [C1s];unfold tE;by_cases c:0<=n
 ·simp only [esc,c,E31]
 ·simp only [esc,c,E3W]
theorem D5 {d:Int} {t:List Int} (ht:t.length=32):(encI (d::t)).length=33:=by rw [A8];simp [ht]
theorem C49 {d:Int} {t:List Int} {i:Nat} (ht:t.length=32) (hi:i<32):(encI (d::t))[1+i]?=some (.i .i64 (toX t i)):=by
 rw [F0,Nat.add_comm 1 i,E4C,D9O (by omega)];rfl
theorem B6a {d:Int} {t:List Int} {i:Nat} {v:Int}:(encI (d::t)).set (1+i) (.i .i64 v)=encI (d::t.set i v):=by
 rw [aX,Nat.add_comm 1 i,E4B]
theorem ldX {h:A6} {id:Nat} {d:Int} {t:List Int} {rw:Bool} (hr:rd h id=some ⟨encI (d::t),rw⟩) (ht:t.length=32) {i:Nat} (hi:i<32):B4 h (pV id (1+i))=some (iV (toX t i)) :=
 B5 hr (C49 ht hi) (by simp [Cell.isX])
theorem adX {id i:Nat} (hi:i<32):J2 32 1 (pV id (0+1)) (iV (i:Int))=some (pV id (1+i)):=by rw [J3 hi];simp
theorem bA {d:Int} {t:List Int} {h:A6}:A20 [.a (encI (d::t))] h=some (iV (U8 d:Nat),h):=by
 have key:∀ g,∃ g',A2z 0 [.a (encI (d::t))] g=some (iV (U8 d:Nat),g'):=by
  intro g;have e1:B5Z (iV d) (iV 5)=some (iV (min d 5)):=by
   simp only [B5Z];by_cases h:(5:Int)<d
   ·rw [if_pos h,Int.min_eq_right (by omega)]
   ·rw [if_neg h,Int.min_eq_left (by omega)]
  have e2:C4C (iV 0) (iV (min d 5))=some (iV (U8 d:Nat)):=by
   rw [<-D62];simp only [C4C];by_cases h:(min d 5:Int) > 0
   ·rw [if_pos h,Int.max_eq_right (by omega)]
   ·rw [if_neg h,Int.max_eq_left (by omega)]
  have e3:B4 (g++[rT (encI (d::t))]) (pV g.length 0)=some (iV d):=B5 (S9) rfl rfl;rw [B7w];generalize hz:encI (d::t)=z at *;exact ⟨_,by simp only [esc,e3,e1,e2]<;>rfl⟩
 obtain ⟨g',e⟩:=key (ro h);exact B3D e rfl
theorem D47 {k:Nat} (hk:k<=5):N9 .shl (iV 1) (.c (.i .u64 (k:Int)))=some (iV ((2 ^ k:Nat):Int)):=by
 rw [B5X (by omega)];have h1:E4W (k:Int).toNat (IntKind.i64).bits=k:=by
  have:(IntKind.i64).bits=64:=rfl;rw [this,E38];exact E4N (by omega)
 have h2:=C6c hk;rw [h1,Int.one_mul];have e:(2:Int) ^ k=((2 ^ k:Nat):Int):=by simp
 rw [e];generalize 2 ^ k=y at h2 ⊢;rw [wrap_i64 (by omega) (by omega)]
theorem B9j {k:Nat} (hk:k<=64):IntKind.wrap .u64 (k:Int)=(k:Int):=wrap_u64 (by omega) (by omega)
theorem dB {d:Int} {t:List Int} {h:A6} (ht:t.length=32):A5F [.a (encI (d::t))] h=some (iV (B9 d:Nat),h):=by
 have key:∀ g,∃ g',A49 0 [.a (encI (d::t))] g=some (iV (B9 d:Nat),g'):=by
  intro g;have hl:=D5 (d:=d) ht;have hd:=λh=>bA (d:=d) (t:=t) (h:=h)
  have e1:=D47 (qD d);have e2:=B9j (k:=U8 d) (by have:=qD d;omega);rw [C1t];unfold B9;generalize encI (d::t)=z at *;exact ⟨_,by simp only [esc,esh,Nat.reduceAdd,Nat.reduceMul,Nat.reduceLT,hl,hd,e1,e2]<;>rfl⟩
 obtain ⟨g',e⟩:=key (ro h);exact B5C e rfl
def mI (t:List Int) (i:Nat):Bool:=(E4m i).all λk=>!decide (toX t k=toX t i)
theorem C5f {d:Int} {t:List Int} {g:A6} {i q:Nat} (ht:t.length=32) (hi:i<32):∀ e k m:Nat,k+e=i->e<m ->
  A91 q m (iV (i:Int)) (pV g.length 0) (iV (i:Int)) (iV (k:Int)) (g++[rT (encI (d::t))]) =
   some (bV ((E4s k e).all λk=>!decide (toX t k=toX t i)),g++[rT (encI (d::t))])
 | e,k,0,_,hm=>by omega
 | 0,k,m+1,hk,hm=>by
  have c0:¬ (k:Int)<i:=by omega
  rw [A17];simp only [esc,c0,List.range'_zero]
 | e+1,k,m+1,hk,hm=>by
  have ih:=C5f (d:=d) (g:=g) (q:=q) ht hi e (k+1) m (by omega) (by omega);have c0:(k:Int)<i:=by omega
  have a1:=adX (id:=g.length) (i:=k) (by omega);have a2:=adX (id:=g.length) (i:=i) (by omega);have l1:=ldX (h:=g++[rT (encI (d::t))]) (id:=g.length) S9 ht (i:=k) (by omega);have l2:=ldX (h:=g++[rT (encI (d::t))]) (id:=g.length) S9 ht (i:=i) (by omega);rw [A17,List.range'_succ,E4x];by_cases c:toX t k=toX t i
  ·rw [decide_eq_true c,Bool.not_true,E3W];rw [c] at l1;simp only [esc,c0,a1,a2,l1,l2]
  ·rw [decide_eq_false c,Bool.not_false,E31];simp only [esc,c0,a1,a2,l1,l2,c,C6 (show k+1<9223372036854775808 by omega)];exact ih
theorem A90 {d:Int} {t:List Int} {i:Nat} {h:A6} (ht:t.length=32) (hi:i<32):A21 [.a (encI (d::t)),iV (i:Int)] h=some (bV (mI t i),h):=by
 have key:∀ N,i<N->∀ g,∃ g',A2A N [.a (encI (d::t)),iV (i:Int)] g=some (bV (mI t i),g'):=by
  intro N hN g;have e:=C5f (d:=d) (g:=g) (q:=N) ht hi i 0 N (by omega) hN;rw [B7x];unfold mI;rw [List.range_eq_range'];exact ⟨_,by simp only [esc];exact e⟩
 obtain ⟨g',e⟩:=key (i+1) (by omega) (ro h);exact B3E e rfl
def V0 (n p b:Nat):List Nat:=(E4m n).filter λk=>k%2 ^ b==p%2 ^ b
def yO (l:List Nat):List Int:=l.map λ(n:Nat)=>(n:Int)
theorem A9z (l:List Nat):(yO l).length=l.length:=by simp [yO]
def bX (d b:Int):Nat:=(max 0 (min b (U8 d:Nat))).toNat
theorem E1F (d b:Int):bX d b<=U8 d:=by unfold bX;omega
def plX (d p b:Int):List Nat:=if 0<=p/\p<(B9 d:Nat) then V0 (B9 d) p.toNat (bX d b) else []
def B1k (n s r i:Nat):List Nat:=(E4m n).filter λk=>decide (k<i)&&(k%s==r)
theorem D5l {n s r i:Nat} (hs:0<s) (hi:i<n) (hr:i%s=r):B1k n s r (i+s)=B1k n s r i++[i]:=by
 unfold B1k;have e:E4m n=E4m i++(i::E4s (i+1) (n-i-1)):=by
  have e1:E4m n=E4s 0 (i+(n-i-1+1)):=by
   rw [List.range_eq_range'];congr 1;omega
  rw [e1,<-List.range'_append_1,List.range_eq_range',E4b,List.range'_succ]
 rw [e,List.filter_append,List.filter_append,List.filter_cons,List.filter_cons];have h1:(E4m i).filter (λk=>decide (k<i+s)&&(k%s==r))=(E4m i).filter (λk=>decide (k<i)&&(k%s==r)):=by
  refine List.filter_congr λk hk=>?_
  have:=List.mem_range.1 hk;rw [decide_eq_true (show k<i+s by omega),decide_eq_true this]
 have h2:(E4s (i+1) (n-i-1)).filter (λk=>decide (k<i+s)&&(k%s==r))=[]:=by
  rw [List.filter_eq_nil_iff];intro k hk;have hk:=List.mem_range'_1.1 hk;by_cases c:k<i+s
  ·have:k%s≠r:=by
    intro e;have e1:=Nat.div_add_mod k s;have e2:=Nat.div_add_mod i s;rw [e] at e1;rw [hr] at e2;have e3:s*(k/s)<s*(i/s)+s:=by omega
    have e4:s*(i/s)<s*(k/s):=by omega
    have e5:i/s<k/s:=Nat.lt_of_mul_lt_mul_left e4;have e6:s*(i/s+1)<=s*(k/s):=Nat.mul_le_mul_left _ e5;rw [Nat.mul_add] at e6;omega
   simp [this]
  ·simp [c]
 have h3:(E4s (i+1) (n-i-1)).filter (λk=>decide (k<i)&&(k%s==r))=[]:=by
  rw [List.filter_eq_nil_iff];intro k hk;have hk:=List.mem_range'_1.1 hk;rw [decide_eq_false (by omega)];simp
 rw [h1,h2,h3,hr];simp [hs]
theorem D6Q {n s r i:Nat} (hi:n<=i):B1k n s r i=(E4m n).filter λk=>k%s==r:=by
 unfold B1k;refine List.filter_congr λk hk=>?_
 have:=List.mem_range.1 hk;rw [decide_eq_true (show k<i by omega),E31]
theorem C4E {n s r:Nat}:B1k n s r r=[]:=by
 unfold B1k;rw [List.filter_eq_nil_iff];intro k hk;by_cases c:k<r
 ·have:k%s<=k:=Nat.mod_le _ _;have:¬ k%s=r:=by omega
  simp [this]
 ·simp [c]
theorem D1x (n s r i:Nat):(B1k n s r i).length<=n:=by
 unfold B1k;exact E4t (List.length_filter_le _ _) (by simp)
theorem C01 {d:Int} {t:List Int} {g:A6} {s r q:Nat} (ht:t.length=32) (hs:0<s) (hs2:s<=32):∀ (e i m:Nat) (h:A6) (id:Nat),B9 d<=i+e->i<=64->e<m->i%s=r->Low (g++[rT (encI (d::t))]).length (g++[rT (encI (d::t))]) h->(g++[rT (encI (d::t))]).length<=id->rd h id=rT (encI (yO (B1k (B9 d) s r i))) ->
  ∃ v h',A67 q m (pV g.length 0) (iV (s:Int)) (sV id 0 (B1k (B9 d) s r i).length 1) (iV (i:Int)) h=some (v,h') /\
   Out g.length h' v 1 ((E4m (B9 d)).filter λk=>k%s==r).length (encI (yO ((E4m (B9 d)).filter λk=>k%s==r)))
 | e,i,0,h,id,_,_,hm,_,_,_,_=>by omega
 | e,i,m+1,h,id,hi,hi2,hm,hr,hlow,hid,hrd=>by
  have hB:=D5 (d:=d) ht;have s1:=B8 (h:=h) (id:=g.length) (cs:=encI (d::t)) (hlow.rd (by simp)) hB;have hM:=λh=>dB (d:=d) (h:=h) ht
  have C5t:=N4 d;have hbl:=D1x (B9 d) s r i;rw [E3S] at hid;rw [B4e];by_cases c:i<B9 d
  ·obtain ⟨e,rfl⟩:∃ e',e=e'+1:=⟨e-1,by omega⟩;have c0:(i:Int)<(B9 d:Nat):=by omega
   have en:=D5l hs c hr;obtain ⟨h1,a1,a2,a3,a4,a5⟩:=push (ys:=[.i .i64 (i:Int)]) (sz:=1) (n:=(B1k (B9 d) s r i).length) hlow hrd (by rw [A8,A9z];omega) (by rw [E3S];exact hid) rfl (by omega) (by omega);have he:encI (yO (B1k (B9 d) s r i))++[.i .i64 (i:Int)]=encI (yO (B1k (B9 d) s r (i+s))):=by rw [en];simp [encI,yO]
   rw [he] at a2;obtain ⟨v,h',f1,f2⟩:=C01 (q:=q) ht hs hs2 e (i+s) m h1 (h.length+1) (by omega) (by omega) (by omega) (by rw [Nat.add_mod_right];exact hr) a3 a4 a2;have hl1:(B1k (B9 d) s r (i+s)).length=(B1k (B9 d) s r i).length+1:=by rw [en];simp
   rw [hl1] at f1;have ef:D9 [o0] [(0,1,iV (i:Int))]=some [.i .i64 (i:Int)]:=rfl;refine ⟨v,h',?_,f2⟩;simp only [esc,s1,hM,c0,ef,a1,A04 (show i+s<9223372036854775808 by omega)];exact f1
  ·have c0:¬ (i:Int)<(B9 d:Nat):=by omega
   rw [D6Q (by omega)] at hrd ⊢;refine ⟨_,_,by simp only [esc,s1,hM,c0]<;>rfl,by rw [A8,A9z];omega,_,rfl,by omega,hrd⟩
theorem amm {b:Int} {d:Nat}:∃ w,B5Z (iV b) (iV (d:Int))=some (iV w)/\C4C (iV 0) (iV w)=some (iV ((max 0 (min b d)).toNat:Nat)):=by
 refine ⟨min b d,?_,?_⟩
 ·simp only [B5Z];by_cases h:(d:Int)<b
  ·rw [if_pos h,Int.min_eq_right (by omega)]
  ·rw [if_neg h,Int.min_eq_left (by omega)]
 ·simp only [C4C];by_cases h:(min b d:Int) > 0
  ·rw [if_pos h,Int.max_eq_right (by omega),Int.toNat_of_nonneg (by omega)]
  ·rw [if_neg h,Int.max_eq_left (by omega)];rfl
theorem A66 {d:Int} {t:List Int} {p b:Int} {h:A6} (ht:t.length=32) :
  A0s [.a (encI (d::t)),iV p,iV b] h=some (sV h.length 0 (plX d p b).length 1,h++[rT (encI (yO (plX d p b)))]):=by
 have key:∀ N,64<N->∀ g,∃ v g',A0d N [.a (encI (d::t)),iV p,iV b] g=some (v,g')/\Out g.length g' v 1 (plX d p b).length (encI (yO (plX d p b))):=by
  intro N hN g;have hB:=D5 (d:=d) ht;have hM:=λh=>dB (d:=d) (h:=h) ht
  have hD:=λh=>bA (d:=d) (t:=t) (h:=h)
  have C5t:=N4 d;rw [B49];unfold plX;by_cases c1:p<0
  ·rw [if_neg (by omega)];have e1:List.map (λ(n:Nat)=>(n:Int)) []=[]:=rfl;refine ⟨sV (g.length+2) 0 0 1,g++[rT (encI (d::t)),rT [],rT []],?_,rfl,g.length+2,rfl,by omega,by simp [encI,yO]⟩;generalize encI (d::t)=z at *;simp only [esc,c1]
  ·by_cases c2:((B9 d:Nat):Int)<=p
   ·rw [if_neg (by omega)];refine ⟨sV (g.length+2) 0 0 1,g++[rT (encI (d::t)),rT [],rT []],?_,rfl,g.length+2,rfl,by omega,by simp [encI,yO]⟩;generalize encI (d::t)=z at *;simp only [esc,esh,Nat.reduceAdd,Nat.reduceMul,Nat.reduceLT,hB,hM,c1,c2]
   ·rw [if_pos (by omega)];obtain ⟨p,rfl⟩:∃ n:Nat,p=n:=⟨p.toNat,by omega⟩;rw [E38];obtain ⟨w,m1,m2⟩:=amm (b:=b) (d:=U8 d);have hbx:=E1F d b;have hdl:=qD d;change C4C _ _=some (iV ((bX d b:Nat):Int)) at m2;have e1:=D47 (k:=bX d b) (by omega);have e2:=B9j (k:=bX d b) (by omega);have hp0:0<2 ^ bX d b:=Nat.pow_pos (by omega);have hp1:=C6c (show bX d b<=5 by omega);have e3:N9 .rem (iV (p:Int)) (iV ((2 ^ bX d b:Nat):Int))=some (iV ((p%2 ^ bX d b:Nat):Int)):=by
     rw [B2B (by omega) (by omega)];simp
    have hpm:p%2 ^ bX d b<2 ^ bX d b:=Nat.mod_lt _ hp0;unfold V0;generalize 2 ^ bX d b=s at *;obtain ⟨v,g',f1,f2⟩:=C01 (g:=g) (d:=d) (t:=t) (q:=N) (s:=s) (r:=p%s) ht hp0 hp1 (B9 d) (p%s) N (g++[rT (encI (d::t)),rT [],rT []]) (g.length+2) (by omega) (by omega) (by omega) (Nat.mod_mod _ _)
     (by have:=(Low.refl (h:=g++[rT (encI (d::t))]) (E3T _)).new [rT [],rT []];simpa using this) (by simp) (by rw [C4E];simp [encI,yO])
    rw [C4E] at f1;refine ⟨v,g',?_,f2⟩;generalize encI (d::t)=z at *;simp only [esc,esh,Nat.reduceAdd,Nat.reduceMul,Nat.reduceLT,hB,hM,hD,c1,c2,m1,m2,e1,e2,e3] at f1 ⊢;exact f1
 obtain ⟨v,g',e,ho⟩:=key (h.length+65) (by omega) (ro h);exact B3B e (by simpa [E7] using ho) (by simp)
theorem C7A {l:List Nat} {i:Nat} (hi:i<l.length):(encI (yO l))[i]?=some (.i .i64 ((l[i]:Nat):Int)):=by
 rw [F0];unfold yO;rw [List.getElem?_map,E3P hi];rfl
def A6r (t:List Int) (l:List Nat) (no:Int):Bool:=l.all λk=>decide (toX t k=no)
theorem C6G {d no:Int} {t:List Int} {g:A6} {v:Val} {l:List Nat} {q:Nat} (ht:t.length=32) (hl:∀ k∈l,k<32) (hv:Has g v 1 l.length (encI (yO l))) (hll:l.length<9223372036854775807):∀ e i m:Nat,i+e=l.length->e<m ->
  A92 q m (iV no) (pV g.length 0) v (iV (l.length:Nat)) (iV (i:Int)) (g++[rT (encI (d::t))])=some (bV (A6r t (l.drop i) no),g++[rT (encI (d::t))])
 | e,i,0,_,hm=>by omega
 | 0,i,m+1,hi,hm=>by
  have c0:¬ (i:Int)<(l.length:Nat):=by omega
  rw [A18,E32 (by omega)];simp only [esc,c0,A6r]
 | e+1,i,m+1,hi,hm=>by
  have ih:=C6G (d:=d) (no:=no) (q:=q) ht hl hv hll e (i+1) m (by omega) (by omega);have c0:(i:Int)<(l.length:Nat):=by omega
  obtain ⟨id,off,ev,hid,k1,k2⟩:=(hv.more [rT (encI (d::t))]).sl (by omega);have hx:=k1 i _ (C7A (by omega));have eb:D6 1 v (iV (i:Int))=some (pV id (off+i)):=by rw [ev,C5 (by omega)];simp
  have hk:=hl l[i] (E4u (by omega));have a1:=adX (id:=g.length) (i:=l[i]) hk;have l1:=ldX (h:=g++[rT (encI (d::t))]) (id:=g.length) S9 ht (i:=l[i]) hk;rw [A18,E3V (by omega:i<l.length),A6r,E4x];rw [A6r] at ih;by_cases c:toX t l[i]=no
  ·rw [decide_eq_true c,E31];rw [c] at l1;simp only [esc,c0,eb,hx,a1,l1,C6 (show i+1<9223372036854775808 by omega)];exact ih
  ·rw [decide_eq_false c,E3W];simp only [esc,c0,eb,hx,a1,l1,c]
theorem C5B {d no:Int} {t:List Int} {h:A6} {v:Val} {l:List Nat} (ht:t.length=32) (hl:∀ k∈l,k<32) (hv:Has h v 1 l.length (encI (yO l))) (hll:l.length<9223372036854775807) :
  A22 [.a (encI (d::t)),v,iV no] h=some (bV (A6r t l no),h):=by
 have key:∀ N,l.length<N->∀ g,Has g v 1 l.length (encI (yO l))->∃ g',A2B N [.a (encI (d::t)),v,iV no] g=some (bV (A6r t l no),g'):=by
  intro N hN g hv;have e:=C6G (d:=d) (no:=no) (q:=N) ht hl hv hll l.length 0 N (by omega) hN;rw [E39] at e;rw [B7y];exact ⟨_,by simp only [esc,hv.len];exact e⟩
 obtain ⟨g',e⟩:=key (l.length+1) (by omega) (ro h) hv.ro;exact B3F e rfl
theorem D3O {n p b:Nat} (hn:n<=32):∀ k∈V0 n p b,k<32:=by
 intro k hk;have:=List.mem_range.1 (List.mem_filter.1 hk).1;omega
theorem C6a (n p b:Nat):(V0 n p b).length<=n:=E4t (List.length_filter_le _ _) (by simp)
theorem D70 {d:Int} {p b:Nat} (hp:p<B9 d) (hb:b<=U8 d):plX d p b=V0 (B9 d) p b:=by
 unfold plX;have:bX d b=b:=by unfold bX;omega
 rw [if_pos ⟨by omega,by omega⟩,this,E38]
def C19 (n:Nat) (t:List Int) (p b:Nat):Bool:=!decide (toX t p=0)&&A6r t (V0 n p b) (toX t p)
def aT (n:Nat) (t:List Int) (p:Nat):Nat->Nat->Nat
 | b,0=>b
 | b,e+1=>bif C19 n t p b then b else aT n t p (b+1) e
def bE (d:Int) (t:List Int) (p:Nat):Nat:=aT (B9 d) t p 0 (U8 d)
theorem B8Q {d:Int} {t:List Int} {g:A6} {p q:Nat} (ht:t.length=32) (hp:p<B9 d):∀ (e b m:Nat) (h:A6),b+e=U8 d->e<m->Low (g++[rT (encI (d::t))]).length (g++[rT (encI (d::t))]) h ->
  ∃ h',B2l q m (iV (p:Int)) (pV g.length 0) (iV (U8 d:Nat)) (iV (b:Int)) h=some (iV (aT (B9 d) t p b e:Nat),h')
 | e,b,0,h,_,hm,_=>by omega
 | 0,b,m+1,h,hb,hm,hlow=>by
  have e0:b=U8 d:=by omega
  subst e0;have c0:¬ ((U8 d:Nat):Int)<(U8 d:Nat):=by omega
  have hB:=D5 (d:=d) ht;have s1:=B8 (h:=h) (id:=g.length) (cs:=encI (d::t)) (hlow.rd (by simp)) hB;have hD:=λh=>bA (d:=d) (t:=t) (h:=h)
  rw [A4o];generalize encI (d::t)=z at *;exact ⟨_,by simp only [esc,c0,s1,hD,aT]<;>rfl⟩
 | e+1,b,m+1,h,hb,hm,hlow=>by
  have C5t:=N4 d;have hdl:=qD d;have c0:(b:Int)<(U8 d:Nat):=by omega
  have hB:=D5 (d:=d) ht;have hrd:rd h g.length=rT (encI (d::t)):=hlow.rd (by simp);have s1:=B8 (h:=h) (id:=g.length) (cs:=encI (d::t)) hrd hB;have a1:=adX (id:=g.length) (i:=p) (by omega);have l1:=ldX (h:=h) (id:=g.length) hrd ht (i:=p) (by omega);have hP:=A66 (d:=d) (p:=p) (b:=b) (h:=h) ht;rw [D70 hp (by omega)] at hP;have hq:=U6 ((Grows.rfl' (h:=h)).new (encI (yO (V0 (B9 d) p b)))) (v:=sV h.length 0 (V0 (B9 d) p b).length 1);have hW:=C5B (d:=d) (no:=toX t p) (h:=h++[rT (encI (yO (V0 (B9 d) p b)))]) (v:=sV h.length 0 (V0 (B9 d) p b).length 1) ht (D3O (p:=p) (b:=b) C5t) (Has.row (rw:=true) S9 (by rw [A8,A9z];omega) (cG _)) (by have:=C6a (B9 d) p b;omega);have l2:=ldX (h:=h++[rT (encI (yO (V0 (B9 d) p b)))]) (id:=g.length) (B7 hrd) ht (i:=p) (by omega);rw [A4o,aT];unfold C19;by_cases cz:toX t p=0
  ·obtain ⟨h',ih⟩:=B8Q (q:=q) ht hp e (b+1) m h (by omega) (by omega) hlow;rw [decide_eq_true cz,Bool.not_true,E3W,cond_false];rw [cz] at l1;refine ⟨h',?_⟩;generalize encI (d::t)=z at *;simp only [esc,c0,a1,l1,C6 (show b+1<9223372036854775808 by omega)];exact ih
  ·rw [decide_eq_false cz,Bool.not_false,E31];cases cw:A6r t (V0 (B9 d) p b) (toX t p) with
   | true =>
    rw [cw] at hW;rw [cond_true];generalize encI (d::t)=z at *;exact ⟨_,by simp only [esc,c0,a1,l1,cz,s1,hP,hq,l2,hW]<;>rfl⟩
   | false =>
    rw [cw] at hW;obtain ⟨h',ih⟩:=B8Q (q:=q) ht hp e (b+1) m (h++[rT (encI (yO (V0 (B9 d) p b)))]) (by omega) (by omega) (hlow.new _);rw [cond_false];refine ⟨h',?_⟩;generalize encI (d::t)=z at *;simp only [esc,c0,a1,l1,cz,s1,hP,hq,l2,hW,C6 (show b+1<9223372036854775808 by omega)];exact ih
def D6R (d:Int) (t:List Int) (p:Int):Nat:=if 0<=p/\p<(B9 d:Nat) then bE d t p.toNat else 0
theorem C7K {d:Int} {t:List Int} {p:Int} {h:A6} (ht:t.length=32):A5D [.a (encI (d::t)),iV p] h=some (iV (D6R d t p:Nat),h):=by
 have key:∀ N,5<N->∀ g,∃ g',A48 N [.a (encI (d::t)),iV p] g=some (iV (D6R d t p:Nat),g'):=by
  intro N hN g;have hB:=D5 (d:=d) ht;have hM:=λh=>dB (d:=d) (h:=h) ht
  have hD:=λh=>bA (d:=d) (t:=t) (h:=h)
  have hdl:=qD d;rw [C1r];unfold D6R;by_cases c1:p<0
  ·rw [if_neg (by omega)];generalize encI (d::t)=z at *;exact ⟨_,by simp only [esc,c1]<;>rfl⟩
  ·by_cases c2:((B9 d:Nat):Int)<=p
   ·rw [if_neg (by omega)];generalize encI (d::t)=z at *;exact ⟨_,by simp only [esc,esh,Nat.reduceAdd,Nat.reduceMul,Nat.reduceLT,hB,hM,c1,c2]<;>rfl⟩
   ·rw [if_pos (by omega)];obtain ⟨p,rfl⟩:∃ n:Nat,p=n:=⟨p.toNat,by omega⟩;rw [E38];obtain ⟨h',e⟩:=B8Q (g:=g) (q:=N) ht (show p<B9 d by omega) (U8 d) 0 N (g++[rT (encI (d::t))]) (by omega) (by omega) (Low.refl (E3T _));unfold bE;refine ⟨h',?_⟩;generalize encI (d::t)=z at *;simp only [esc,esh,Nat.reduceAdd,Nat.reduceMul,Nat.reduceLT,hB,hM,hD,c1,c2];exact e
 obtain ⟨g',e⟩:=key (h.length+6) (by omega) (ro h);exact B5A e rfl
theorem D8S {d:Int} {t:List Int} {p:Nat} (hp:p<B9 d):D6R d t p=bE d t p:=by
 unfold D6R;rw [if_pos ⟨by omega,by omega⟩,E38]
def qC (n:Nat) (t:List Int) (no:Int):Nat:=((E4m n).filter λk=>decide (toX t k=no)).length
theorem D1N {n:Nat} {t:List Int} {no:Int}:qC (n+1) t no=qC n t no+(if toX t n=no then 1 else 0):=by
 unfold qC;rw [List.range_succ,List.filter_append,E3S,List.filter_cons];by_cases c:toX t n=no<;>simp [c]
theorem D5u {n:Nat} {t:List Int} {no:Int}:qC n t no<=n:=E4t (List.length_filter_le _ _) (by simp)
theorem C43 {d no:Int} {t:List Int} {g:A6} {n q:Nat} (ht:t.length=32) (hn:n<=32):∀ e i m:Nat,i+e=n->e<m ->
  A9Z q m (iV no) (pV g.length 0) (iV (qC i t no:Nat)) (iV (n:Int)) (iV (i:Int)) (g++[rT (encI (d::t))])=some (iV (qC n t no:Nat),g++[rT (encI (d::t))])
 | e,i,0,_,hm=>by omega
 | 0,i,m+1,hi,hm=>by
  have e0:i=n:=by omega
  subst e0;have c0:¬ (i:Int)<i:=by omega
  rw [A16];simp only [esc,c0]
 | e+1,i,m+1,hi,hm=>by
  have ih:=C43 (d:=d) (no:=no) (g:=g) (q:=q) ht hn e (i+1) m (by omega) (by omega);have c0:(i:Int)<n:=by omega
  have a1:=adX (id:=g.length) (i:=i) (by omega);have l1:=ldX (h:=g++[rT (encI (d::t))]) (id:=g.length) S9 ht (i:=i) (by omega);have hc:=D5u (n:=i) (t:=t) (no:=no);rw [D1N] at ih;rw [A16];generalize qC i t no=C at *;by_cases c:toX t i=no
  ·rw [if_pos c] at ih;rw [c] at l1;simp only [esc,c0,a1,l1,A15,C6 (show C+1<9223372036854775808 by omega),C6 (show i+1<9223372036854775808 by omega)];exact ih
  ·rw [if_neg c,E4U] at ih;simp only [esc,c0,a1,l1,c,A15,C6 (show i+1<9223372036854775808 by omega)];exact ih
theorem C5z {d no:Int} {t:List Int} {h:A6} (ht:t.length=32):A2Z [.a (encI (d::t)),iV no] h=some (iV (qC (B9 d) t no:Nat),h):=by
 have key:∀ N,32<N->∀ g,∃ g',A2y N [.a (encI (d::t)),iV no] g=some (iV (qC (B9 d) t no:Nat),g'):=by
  intro N hN g;have hB:=D5 (d:=d) ht;have hM:=λh=>dB (d:=d) (h:=h) ht
  have hm:=N4 d;have e:=C43 (d:=d) (no:=no) (g:=g) (q:=N) ht hm (B9 d) 0 N (by omega) (by omega);rw [show qC 0 t no=0 from rfl] at e;rw [B7v];generalize encI (d::t)=z at *;exact ⟨_,by simp only [esc,esh,Nat.reduceAdd,Nat.reduceMul,Nat.reduceLT,hB,hM];exact e⟩
 obtain ⟨g',e⟩:=key (h.length+33) (by omega) (ro h);exact B3C e rfl
def A2k (d:Int) (t:List Int) (i:Nat):Bool:=decide ((V0 (B9 d) i (bE d t i)).length=qC (B9 d) t (toX t i))
def A2c (d:Int) (t:List Int) (i:Nat):Bool:=!decide (toX t i=0)&&(tE (toX t i)&&(mI t i||A2k d t i))
def qU (d:Int) (t:List Int) (i:Nat):Int:=bif A2c d t i then toX t i else 0
def oT (d:Int) (t:List Int) (k:Nat):List Int:=(E4m k).map (qU d t)++zI (32-k)
theorem vN {d:Int} {t:List Int} {k:Nat} (hk:k<=32):(oT d t k).length=32:=by simp [oT,zI];omega
theorem C8U {d:Int} {t:List Int}:oT d t 0=zI 32:=rfl
theorem C8T {d:Int} {t:List Int} {k:Nat} (hk:k<32):oT d t (k+1)=(oT d t k).set k (qU d t k):=by
 unfold oT;have e:zI (32-k)=0::zI (32-(k+1)):=by
  unfold zI;rw [show 32-k=(32-(k+1))+1 by omega,E4i]
 rw [e,E4p _ _ (by simp),List.range_succ,E4J,E3U];simp
theorem C8S {d:Int} {t:List Int} {k:Nat} (hk:k<32) (hf:qU d t k=0):oT d t (k+1)=oT d t k:=by
 unfold oT;have e:zI (32-k)=0::zI (32-(k+1)):=by
  unfold zI;rw [show 32-k=(32-(k+1))+1 by omega,E4i]
 rw [e,List.range_succ,E4J,E3U];simp [hf]
theorem C5h {d:Int} {t:List Int} {g:A6} {q:Nat} (ht:t.length=32):∀ (e i m:Nat) (h:A6),i+e=B9 d->e<m->Low (g++[rT (encI (d::t)),rT (encI (0::zI 32))]).length (g++[rT (encI (d::t)),rT (encI (0::zI 32))]) h->rd h (g.length+2)=rT (encI (d::oT d t i)) ->
  ∃ h',yW q m (pV g.length 0) (pV (g.length+1) 0) (pV (g.length+2) 0) (iV (B9 d:Nat)) (iV (i:Int)) h=some (.a (encI (d::oT d t (B9 d))),h')
 | e,i,0,h,_,hm,_,_=>by omega
 | 0,i,m+1,h,hi,hm,hlow,hr=>by
  have e0:i=B9 d:=by omega
  subst e0;have c0:¬ ((B9 d:Nat):Int)<(B9 d:Nat):=by omega
  have hF:=D5 (d:=d) (vN (d:=d) (t:=t) (N4 d));have hz:(encI (0::zI 32)).length=33:=D5 (d:=0) G9;have hr1:rd h (g.length+1)=rT (encI (0::zI 32)):=hlow.rd (by simp);have s1:=B8 (h:=h) (id:=g.length+2) hr hF;have s2:=storeAll (h:=h) (id:=g.length+1) (xs:=encI (d::oT d t (B9 d))) hr1 hz hF;have s3:=B8 (h:=h.set (g.length+1) (rT (encI (d::oT d t (B9 d))))) (id:=g.length+1) (B6 (C4 hr1)) hF;rw [A63];generalize encI (d::oT d t (B9 d))=z at *;exact ⟨_,by simp only [esc,c0,s1,s2,s3]<;>rfl⟩
 | e+1,i,m+1,h,hi,hm,hlow,hr=>by
  have C5t:=N4 d;have c0:(i:Int)<(B9 d:Nat):=by omega
  have hB:=D5 (d:=d) ht;have hrd:rd h g.length=rT (encI (d::t)):=hlow.rd (by simp);have s1:=B8 (h:=h) (id:=g.length) (cs:=encI (d::t)) hrd hB;have a1:=adX (id:=g.length) (i:=i) (by omega);have l1:=ldX (h:=h) (id:=g.length) hrd ht (i:=i) (by omega);have hFi:=λh=>B2m (n:=toX t i) (h:=h)
  have hFs:=λh=>A90 (d:=d) (t:=t) (i:=i) (h:=h) ht (by omega)
  have w1:=C6 (show i+1<9223372036854775808 by omega);have hk:i<32:=by omega
  have skip:qU d t i=0->∀ h2,Low (g++[rT (encI (d::t)),rT (encI (0::zI 32))]).length (g++[rT (encI (d::t)),rT (encI (0::zI 32))]) h2->rd h2 (g.length+2)=rT (encI (d::oT d t i)) ->
    ∃ h',yW q m (pV g.length 0) (pV (g.length+1) 0) (pV (g.length+2) 0) (iV (B9 d:Nat)) (iV ((i+1:Nat):Int)) h2=some (.a (encI (d::oT d t (B9 d))),h'):=by
   intro hf h2 hlow2 yV;exact C5h (q:=q) ht e (i+1) m h2 (by omega) (by omega) hlow2 (by rw [C8S hk hf];exact yV)
  have a3:=adX (id:=g.length+2) (i:=i) hk;have put:qU d t i=toX t i->∀ h2,Low (g++[rT (encI (d::t)),rT (encI (0::zI 32))]).length (g++[rT (encI (d::t)),rT (encI (0::zI 32))]) h2->rd h2 (g.length+2)=rT (encI (d::oT d t i)) ->
    ∃ h3,F9 h2 (pV (g.length+2) (1+i)) (iV (toX t i))=some h3/\∃ h',yW q m (pV g.length 0) (pV (g.length+1) 0) (pV (g.length+2) 0) (iV (B9 d:Nat)) (iV ((i+1:Nat):Int)) h3=some (.a (encI (d::oT d t (B9 d))),h'):=by
   intro hf h2 hlow2 yV;have hF:=D5 (d:=d) (vN (d:=d) (t:=t) (k:=i) (by omega));have t1:=E9 (x:=.i .i64 (toX t i)) (off:=1+i) yV (by rw [hF];omega);rw [B6a,<-hf,<-C8T hk,hf] at t1;refine ⟨_,t1,C5h (q:=q) ht e (i+1) m _ (by omega) (by omega) (hlow2.set (by simp) _) (B6 (C4 yV))⟩
  rw [A63];by_cases cz:toX t i=0
  ·have hf:qU d t i=0:=by unfold qU A2c;rw [decide_eq_true cz];rfl
   obtain ⟨h',ih⟩:=skip hf h hlow hr;rw [cz] at l1;refine ⟨h',?_⟩;generalize encI (d::t)=z at *;simp only [esc,c0,a1,l1,gC,w1];exact ih
  ·cases cf:tE (toX t i) with
   | false =>
    rw [cf] at hFi;have hf:qU d t i=0:=by unfold qU A2c;rw [cf,E3W,E4O,cond_false]
    obtain ⟨h',ih⟩:=skip hf h hlow hr;refine ⟨h',?_⟩;generalize encI (d::t)=z at *;simp only [esc,c0,a1,l1,cz,hFi,gC,w1];exact ih
   | true =>
    rw [cf] at hFi;cases cs:mI t i with
    | true =>
     rw [cs] at hFs;have hf:qU d t i=toX t i:=by unfold qU A2c;rw [cf,cs,decide_eq_false cz];rfl
     obtain ⟨h3,st,h',ih⟩:=put hf h hlow hr;refine ⟨h',?_⟩;generalize encI (d::t)=z at *;simp only [esc,c0,a1,l1,cz,hFi,s1,hFs,a3,st,gC,w1];exact ih
    | false =>
     rw [cs] at hFs;have hBi:=λh=>C7K (d:=d) (t:=t) (p:=(i:Int)) (h:=h) ht
     rw [D8S (by omega)] at hBi;have hbl:bE d t i<=U8 d:=by
      have:∀ e b,aT (B9 d) t i b e<=b+e:=by
       intro e
       induction e with
       | zero=>intro b;exact E3T _
       | succ e ih =>
        intro b;unfold aT;cases C19 (B9 d) t i b
        ·rw [cond_false];have:=ih (b+1);omega
        ·rw [cond_true];omega
      have:=this (U8 d) 0;unfold bE;omega
     have hP:=A66 (d:=d) (p:=(i:Int)) (b:=(bE d t i:Nat)) (h:=h) ht;rw [D70 (by omega) hbl] at hP;have hq:=U6 ((Grows.rfl' (h:=h)).new (encI (yO (V0 (B9 d) i (bE d t i))))) (v:=sV h.length 0 (V0 (B9 d) i (bE d t i)).length 1);have hC:=λh=>C5z (d:=d) (no:=toX t i) (h:=h) ht
     have ew:decide (((V0 (B9 d) i (bE d t i)).length:Int)=((qC (B9 d) t (toX t i):Nat):Int))=A2k d t i:=by
      unfold A2k;by_cases c:(V0 (B9 d) i (bE d t i)).length=qC (B9 d) t (toX t i)
      ·rw [decide_eq_true c,decide_eq_true (by omega)]
      ·rw [decide_eq_false c,decide_eq_false (by omega)]
     have hlow2:=hlow.new [rT (encI (yO (V0 (B9 d) i (bE d t i))))];have yV:rd (h++[rT (encI (yO (V0 (B9 d) i (bE d t i))))]) (g.length+2)=rT (encI (d::oT d t i)):=B7 hr;cases cw:A2k d t i with
     | true =>
      rw [cw] at ew;have hf:qU d t i=toX t i:=by unfold qU A2c;rw [cf,cs,cw,decide_eq_false cz];rfl
      obtain ⟨h3,st,h',ih⟩:=put hf _ hlow2 yV;refine ⟨h',?_⟩;generalize encI (d::t)=z at *;simp only [esc,c0,a1,l1,cz,hFi,s1,hFs,hBi,hP,hq,hC,ew,a3,st,gC,w1];exact ih
     | false =>
      rw [cw] at ew;have hf:qU d t i=0:=by unfold qU A2c;rw [cf,cs,cw,decide_eq_false cz];rfl
      obtain ⟨h',ih⟩:=skip hf _ hlow2 yV;refine ⟨h',?_⟩;generalize encI (d::t)=z at *;simp only [esc,c0,a1,l1,cz,hFi,s1,hFs,hBi,hP,hq,hC,ew,gC,w1];exact ih
def C7H (d:Int) (t:List Int):List Int:=if 0<=d/\d<=5 then d::oT d t (B9 d) else 0::zI 32
theorem D0n {d:Int} {t:List Int} {h:A6} (ht:t.length=32):A8K [.a (encI (d::t))] h=some (.a (encI (C7H d t)),h):=by
 have key:∀ N,32<N->∀ g,∃ g',A7W N [.a (encI (d::t))] g=some (.a (encI (C7H d t)),g'):=by
  intro N hN g;have hB:=D5 (d:=d) ht;have hz:(encI (0::zI 32)).length=33:=D5 (d:=0) G9;have hM:=λh=>dB (d:=d) (h:=h) ht
  have hD:=λh=>bA (d:=d) (t:=t) (h:=h)
  have l0:(encI (d::t))[0]?=some (.i .i64 d):=rfl;have haf:D9 (encI (0::zI 32)) []=some (encI (0::zI 32)):=rfl;rw [C3m,B0w];unfold C7H;by_cases c:0<=d/\d<=5
  ·rw [if_pos c];have hd:=B0L c.1 c.2;rw [hd] at hD;have ef:D9 (encI (0::zI 32)) [(0,1,iV d)]=some (encI (d::zI 32)):=by
    have e1:(0+1<=(encI (0::zI 32)).length):=by rw [hz];omega
    simp only [D9,cells?];rw [if_pos ⟨rfl,e1⟩];rfl
   have hz2:(encI (d::zI 32)).length=33:=D5 (d:=d) G9;obtain ⟨h',e⟩:=C5h (g:=g) (d:=d) (t:=t) (q:=N) ht (B9 d) 0 N (g++[rT (encI (d::t)),rT (encI (0::zI 32)),rT (encI (d::zI 32))]) (by omega) (by have:=N4 d;omega)
    (by have:=(Low.refl (h:=g++[rT (encI (d::t)),rT (encI (0::zI 32))]) (E3T _)).new [rT (encI (d::zI 32))];simpa using this) (by rw [C8U];simp)
   refine ⟨h',?_⟩;generalize encI (d::zI 32)=z2 at *;generalize encI (0::zI 32)=z at *;generalize encI (d::t)=y at *;simp only [esc,esh,Nat.reduceAdd,Nat.reduceMul,Nat.reduceLT,hB,hz,l0,hM,hD,ef,hz2];exact e
  ·rw [if_neg c];have cd:¬ d=((U8 d:Nat):Int):=by unfold U8;omega
   generalize encI (0::zI 32)=z at *;generalize encI (d::t)=y at *;exact ⟨_,by simp only [esc,esh,Nat.reduceAdd,Nat.reduceMul,Nat.reduceLT,hB,hz,l0,hM,hD,cd,haf]<;>rfl⟩
 obtain ⟨g',e⟩:=key (h.length+33) (by omega) (ro h);exact B8h e (by simp)
theorem D11 {d:Int} {t:List Int}:(C7H d t).length=33:=by
 unfold C7H;split
 ·rw [E3Z,vN (N4 d)]
 ·rw [E3Z,G9]
def qM (d:List Int):List UInt8:=(d.map (A9 2)).flatten
theorem oO {d:List Int}:(qM d).length=2*d.length:=by
 induction d with
 | nil=>rfl
 | cons x d ih=>simp only [qM,E4R,E4L,E3S,O6,E3Z] at ih ⊢;omega
theorem C9a {d:List Int} {x:Int}:qM (d++[x])=qM d++A9 2 x:=by simp [qM]
def magX:List UInt8:=[105,100,120,33]
def wY (d:Int):List UInt8:=magX++A9 1 d++zeros 27
theorem oK {d:Int}:(wY d).length=32:=by simp [wY,magX]
def eH (d:Int) (t:List Int):List UInt8:=N5 256 (wY d++qM t)
theorem kB {d:Int} {t:List Int} (ht:t.length=32):(eH d t).length=256:=F5 (by rw [E3S,oK,oO];omega)
theorem D3M {n k:Nat} {l:List UInt8} (h:l.length+k<=n):N5 n (l++zeros k)=N5 n l:=by
 unfold N5 zeros;rw [E3U,List.replicate_append_replicate,E3S,E4g]
 congr 2;omega
def okX (d:Int) (t:List Int):Bool:=decide (0<=d)&&(decide (d<=5)&&t.all tE)
theorem C81 {d:Int} {t:List Int} {g:A6} {y:List Cell} {q:Nat} (ht:t.length=32) (hyl:y.length=33):∀ e i m:Nat,i+e=32->e<m ->
  ∃ h',B6w q m (pV (g.length+1) 0) (pV (g.length+3) 0) (.a (encI t)) (iV (i:Int)) (g++[rT y,rT (A5 (zeros 256)),rT (A5 magX),rT (A5 (N5 256 (wY d++qM (t.take i))))]) =
   some (.t [.a (A5 (bif (t.drop i).all tE then eH d t else zeros 256)),.c (.i .i64 (bif (t.drop i).all tE then 0 else 1))],h')
 | e,i,0,_,hm=>by omega
 | 0,i,m+1,hi,hm=>by
  have e0:i=32:=by omega
  subst e0;have c0:¬ ((32:Nat):Int)<32:=by omega
  have hz:(A5 (zeros 256)).length=256:=by rw [A4];exact zeros_length
  have hB:(A5 (eH d t)).length=256:=by rw [A4];exact kB ht
  have eB:N5 256 (wY d++qM t)=eH d t:=rfl;rw [A68,E3Y (by omega),E32 (by omega),List.all_nil,cond_true,cond_true,eB];generalize eH d t=B at *;generalize A5 magX=mg at *;generalize zeros 256=z at *;exact ⟨_,by simp only [esc,esh,Nat.reduceAdd,Nat.reduceMul,Nat.reduceLT,c0,hz,hB]<;>rfl⟩
 | e+1,i,m+1,hi,hm=>by
  obtain ⟨h',ih⟩:=C81 (d:=d) (g:=g) (q:=q) ht hyl e (i+1) m (by omega) (by omega);have c0:(i:Int)<32:=by omega
  have hz:(A5 (zeros 256)).length=256:=by rw [A4];exact zeros_length
  have haf:D9 (E3Q 256 (Cell.i .u8 0)) []=some (E3Q 256 (Cell.i .u8 0)):=rfl;rw [I3] at haf;have hx:A3f 32 (.a (encI t)) (iV (i:Int))=some (iV t[i]):=by
   rw [B6r (by omega),F0,E3P (by omega)];rfl
  have hF:=λh=>B2m (n:=t[i]) (h:=h)
  have hnl:(wY d++qM (t.take i)).length=32+2*i:=by rw [E3S,oK,oO,E4k];omega
  have hP0:(N5 256 (wY d++qM (t.take i))).length=256:=F5 (by omega);have hp:(A5 (N5 256 (wY d++qM (t.take i)))).length=256:=by rw [A4,hP0]
  have hW:=λh=>X4 (h:=h) (l:=N5 256 (wY d++qM (t.take i))) hP0 (a:=((32+2*i:Nat):Int)) (w:=2) (v:=t[i])
  have ew:=gQ (l:=wY d++qM (t.take i)) (a:=32+2*i) (w:=2) (v:=t[i]) (by omega) (by omega) (by omega) (by omega);rw [hnl,E4y,show zeros 0=[] from rfl,E4f,E3U,<-C9a,<-E36 (by omega)] at ew;rw [show ((2:Nat):Int)=2 from rfl] at ew;rw [ew] at hW;have hp2:(A5 (N5 256 (wY d++qM (t.take (i+1))))).length=256:=by rw [A4,F5 (by rw [E3S,oK,oO,E4k];omega)]
  have w1:IntKind.wrap .i64 (2*(i:Int))=((2*i:Nat):Int):=by rw [wrap_i64 (by omega) (by omega)];omega
  have w2:IntKind.wrap .i64 (32+((2*i:Nat):Int))=((32+2*i:Nat):Int):=by rw [wrap_i64 (by omega) (by omega)];omega
  rw [A68,I3,E3V (by omega:i<t.length),E4x];generalize N5 256 (wY d++qM (t.take (i+1)))=P1 at *;generalize N5 256 (wY d++qM (t.take i))=P0 at *;generalize eH d t=B at *;generalize A5 magX=mg at *;generalize zeros 256=z at *;cases c:tE t[i] with
  | false =>
   rw [c] at hF;rw [E3W,cond_false,cond_false];exact ⟨_,by simp only [esc,esh,Nat.reduceAdd,Nat.reduceMul,Nat.reduceLT,c0,hx,hF,haf,hz]<;>rfl⟩
  | true =>
   rw [c] at hF;rw [E31];refine ⟨h',?_⟩;simp only [esc,esh,Nat.reduceAdd,Nat.reduceMul,Nat.reduceLT,c0,hx,hF,hp,w1,w2,hW,hp2,C6 (show i+1<9223372036854775808 by omega)];exact ih
theorem B6v {d:Int} {t:List Int} {h:A6} (ht:t.length=32):A8M [.a (encI (d::t))] h=some (.t [.a (A5 (bif okX d t then eH d t else zeros 256)),.c (.i .i64 (bif okX d t then 0 else 1))],h):=by
 have key:∀ N,32<N->∀ g,∃ g',A7Y N [.a (encI (d::t))] g=some (.t [.a (A5 (bif okX d t then eH d t else zeros 256)),.c (.i .i64 (bif okX d t then 0 else 1))],g'):=by
  intro N hN g;have hB:=D5 (d:=d) ht;have hz:(A5 (zeros 256)).length=256:=by rw [A4];exact zeros_length
  have hD:=λh=>bA (d:=d) (t:=t) (h:=h)
  have l0:(encI (d::t))[0]?=some (.i .i64 d):=rfl;have haf:D9 (E3Q 256 (Cell.i .u8 0)) []=some (E3Q 256 (Cell.i .u8 0)):=rfl;rw [I3] at haf;rw [C3o,I3];unfold okX;by_cases c:0<=d/\d<=5
  ·rw [decide_eq_true c.1,decide_eq_true c.2,E31,E31];have hd:=B0L c.1 c.2;rw [hd] at hD;have ef:D9 [Cell.i .u8 0,.i .u8 0,.i .u8 0,.i .u8 0] [(0,1,.c (.i .u8 105)),(1,1,.c (.i .u8 100)),(2,1,.c (.i .u8 120)),(3,1,.c (.i .u8 33))]=some (A5 magX):=rfl;have hO:=B0X (data:=magX) (v:=sV (g.length+2) 0 4 1) (nv:=4) (h:=g++[rT (encI (d::t)),rT (A5 (zeros 256)),rT (A5 magX),none]) (Has.row (rw:=true) (by simp) rfl (F6 _)) (by decide);rw [C52 (by decide)] at hO;have hM:xJ (g++[rT (encI (d::t)),rT (A5 (zeros 256)),rT (A5 magX),none]) (sV (g.length+2) 0 4 1)=some (sV (g.length+2) 0 4 1):=by simp [xJ]
   have hW:=λh=>X4 (h:=h) (l:=N5 256 magX) (F5 (by decide)) (a:=4) (w:=1) (v:=d)
   have ew:=gQ (l:=magX) (a:=4) (w:=1) (v:=d) (by decide) (by omega) (by omega) (by omega);have e5:magX++zeros (4-magX.length)++A9 1 d=magX++A9 1 d:=rfl;have e6:N5 256 (magX++A9 1 d)=N5 256 (wY d++qM (t.take 0)):=by
    rw [E4P,show qM []=[] from rfl,E4f];exact (D3M (by simp [magX])).symm
   rw [e5,e6] at ew;rw [show ((4:Nat):Int)=4 from rfl,show ((1:Nat):Int)=1 from rfl] at ew;rw [ew] at hW;have hp2:(A5 (N5 256 (wY d++qM (t.take 0)))).length=256:=by rw [A4,F5 (by rw [E3S,oK,oO,E4k];omega)]
   have e7:C8 (g++[rT (encI (d::t)),rT (A5 (zeros 256)),rT (A5 magX),rT (A5 (N5 256 (wY d++qM (t.take 0))))]) 32 (pV g.length 1)=some (.a (encI t)):=by
    rw [N2];simp only [List.getElem?_cons_zero,Option.join_some,ldN,E3X];rw [if_pos ⟨by rw [hB];omega,rfl⟩];have:(encI (d::t)).drop 1=encI t:=rfl;rw [this,E3Y (by rw [A8];omega)]
   obtain ⟨h',e⟩:=C81 (d:=d) (t:=t) (g:=g) (q:=N) ht hB 32 0 N (by omega) hN;rw [E39] at e;generalize N5 256 (wY d++qM (t.take 0))=P1 at *;generalize N5 256 magX=P2 at *;generalize eH d t=B at *;generalize A5 magX=mg at *;generalize zeros 256=z at *;generalize encI (d::t)=y at *;refine ⟨h',?_⟩;simp only [esc,esh,Nat.reduceAdd,Nat.reduceMul,Nat.reduceLT,hB,hz,l0,hD,ef,hM,hO,hW,hp2,e7,show g.length+2+1=g.length+3 from rfl];exact e
  ·have cd:¬ d=((U8 d:Nat):Int):=by unfold U8;omega
   have ec:(decide (0<=d)&&(decide (d<=5)&&t.all tE))=false:=by
    by_cases c1:0<=d
    ·rw [decide_eq_false (show ¬ d<=5 by omega)];simp
    ·rw [decide_eq_false c1];rfl
   rw [ec,cond_false,cond_false];generalize zeros 256=z at *;generalize encI (d::t)=y at *;exact ⟨_,by simp only [esc,esh,Nat.reduceAdd,Nat.reduceMul,Nat.reduceLT,hB,hz,l0,hD,cd,haf]<;>rfl⟩
 obtain ⟨g',e⟩:=key (h.length+33) (by omega) (ro h);refine B8k e ?_;cases okX d t<;>simp
def getD (b:List UInt8):Int:=fieldN b 4 1
def E1G (b:List UInt8) (i:Nat):Int:=fieldN b (32+2*i) 2
def M6 (b:List UInt8) (n:Nat):List Int:=(E4m n).map (E1G b)++zI (32-n)
theorem jZ {b:List UInt8} {n:Nat} (hn:n<=32):(M6 b n).length=32:=by simp [M6,zI];omega
theorem C8W {b:List UInt8} {k:Nat} (hk:k<32):M6 b (k+1)=(M6 b k).set k (E1G b k):=by
 unfold M6;have e:zI (32-k)=0::zI (32-(k+1)):=by
  unfold zI;rw [show 32-k=(32-(k+1))+1 by omega,E4i]
 rw [e,E4p _ _ (by simp),List.range_succ,E4J,E3U];simp
theorem C97 {b:List UInt8} {a w:Nat} (h:a+w<=256) (hw:1<=w) (hw4:w<=4):((atN b (a:Int) w:Nat):Int)=fieldN b a w:=by
 unfold atN fieldN;rw [if_pos ⟨by omega,N0.2 (by omega)⟩];simp only [E38]
def A0X (t:List Int) (n e:Nat):Bool:=(E4s n e).all λi=>decide (toX t i=0)
def T6 (b:List UInt8):Bool:=okX (getD b) (M6 b 32)&&(decide (eH (getD b) (M6 b 32)=b)&&A0X (M6 b 32) (B9 (getD b)) (32-B9 (getD b)))
theorem D7m {b:List UInt8} {d:Int} {t:List Int} {ix iz q:Nat} {h:A6} (ht:t.length=32) (hx:rd h ix=rT (encI (d::t))) (hz:rd h iz=rT (encI (0::zI 32))):∀ e i m:Nat,i+e=32->e<m ->
  ∃ h',B6u q m (pV iz 0) (pV ix 0) (iV (i:Int)) h=some (.t [.a (encI (bif A0X t i e then d::t else 0::zI 32)),.c (.i .i64 (bif A0X t i e then 0 else 14))],h')
 | e,i,0,_,hm=>by omega
 | 0,i,m+1,hi,hm=>by
  have e0:i=32:=by omega
  subst e0;have c0:¬ ((32:Nat):Int)<32:=by omega
  have hX:=D5 (d:=d) ht;have hZ:(encI (0::zI 32)).length=33:=D5 (d:=0) G9;have s1:=B8 (h:=h) (id:=ix) hx hX;have s2:=storeAll (h:=h) (id:=iz) (xs:=encI (d::t)) hz hZ hX;have s3:=B8 (h:=h.set iz (rT (encI (d::t)))) (id:=iz) (B6 (C4 hz)) hX;have er:A0X t 32 0=true:=rfl;rw [A65,er,cond_true,cond_true];generalize encI (d::t)=y at *;exact ⟨_,by simp only [esc,c0,s1,s2,s3]<;>rfl⟩
 | e+1,i,m+1,hi,hm=>by
  obtain ⟨h',ih⟩:=D7m (b:=b) (q:=q) ht hx hz e (i+1) m (by omega) (by omega);have c0:(i:Int)<32:=by omega
  have hZ:(encI (0::zI 32)).length=33:=D5 (d:=0) G9;have a1:=adX (id:=ix) (i:=i) (by omega);have l1:=ldX (h:=h) (id:=ix) hx ht (i:=i) (by omega);have haf:D9 (encI (0::zI 32)) []=some (encI (0::zI 32)):=rfl;have s2:=storeAll (h:=h) (id:=iz) (xs:=encI (0::zI 32)) hz hZ hZ;have s3:=B8 (h:=h.set iz (rT (encI (0::zI 32)))) (id:=iz) (B6 (C4 hz)) hZ;have er:A0X t i (e+1)=(decide (toX t i=0)&&A0X t (i+1) e):=by unfold A0X;rw [List.range'_succ,E4x]
  rw [A65,er,B0w];by_cases c:toX t i=0
  ·rw [decide_eq_true c,E31];rw [c] at l1;generalize encI (0::zI 32)=z at *;exact ⟨h',by simp only [esc,c0,a1,l1,C6 (show i+1<9223372036854775808 by omega)];exact ih⟩
  ·rw [decide_eq_false c,E3W,cond_false,cond_false];generalize encI (0::zI 32)=z at *;exact ⟨_,by simp only [esc,c0,a1,l1,c,haf,s2,s3]<;>rfl⟩
theorem D7l {b:List UInt8} {g:A6} {q:Nat} (hb:b.length=256) (hq:32<q):∀ e i m:Nat,i+e=32->e<m ->
  ∃ h',B6t q m (pV g.length 0) (pV (g.length+1) 0) (pV (g.length+2) 0) (iV (i:Int)) (g++[rT (A5 b),rT (encI (0::zI 32)),rT (encI (getD b::M6 b i))]) =
   some (.t [.a (encI (bif T6 b then getD b::M6 b 32 else 0::zI 32)),.c (.i .i64 (bif T6 b then 0 else 14))],h')
 | e,i,0,_,hm=>by omega
 | 0,i,m+1,hi,hm=>by
  have e0:i=32:=by omega
  subst e0;have c0:¬ ((32:Nat):Int)<32:=by omega
  have hB:(A5 b).length=256:=by rw [A4,hb]
  have ht:=jZ (b:=b) (n:=32) (E3T _);have hX:=D5 (d:=getD b) ht;have hZ:(encI (0::zI 32)).length=33:=D5 (d:=0) G9;have hz0:(E3Q 256 (Cell.i .u8 0)).length=256:=E4g;have hP:=λh=>B6v (d:=getD b) (t:=M6 b 32) (h:=h) ht
  have hM:=λh=>dB (d:=getD b) (h:=h) ht
  have C5t:=N4 (getD b);have haf:D9 (encI (0::zI 32)) []=some (encI (0::zI 32)):=rfl;unfold T6;rw [A64,B0w];cases co:okX (getD b) (M6 b 32) with
  | false =>
   rw [co] at hP;simp only [cond_false] at hP;have hzz:(A5 (zeros 256)).length=256:=by rw [A4];exact zeros_length
   rw [E3W,cond_false,cond_false];generalize encI (0::zI 32)=z at *;generalize encI (getD b::M6 b 32)=y at *;generalize E3Q 256 (Cell.i .u8 0)=zz at *;generalize zeros 256=zzz at *;exact ⟨_,by simp only [esc,esh,Nat.reduceAdd,Nat.reduceMul,Nat.reduceLT,c0,hX,hP,hz0,hzz,haf,hZ,show decide ((1:Int)=0)=false from rfl]<;>rfl⟩
  | true =>
   rw [co] at hP;simp only [cond_true] at hP;rw [E31];have R6:=kB (d:=getD b) ht;have hI:(A5 (eH (getD b) (M6 b 32))).length=256:=by rw [A4,R6]
   have hE:=D4j (n:=256) R6 hb;by_cases ce:eH (getD b) (M6 b 32)=b
   ·rw [decide_eq_true ce,E31];rw [decide_eq_true ce] at hE;obtain ⟨h',e⟩:=D7m (b:=b) (d:=getD b) (t:=M6 b 32) (ix:=g.length+2) (iz:=g.length+1) (q:=q) (h:=g++[rT (A5 b),rT (encI (0::zI 32)),rT (encI (getD b::M6 b 32)),rT (A5 (eH (getD b) (M6 b 32)))]) ht (by simp) (by simp) (32-B9 (getD b)) (B9 (getD b)) q (by omega) (by omega);refine ⟨h',?_⟩;generalize A0X (M6 b 32) (B9 (getD b)) (32-B9 (getD b))=R at *;generalize eH (getD b) (M6 b 32)=I at *;generalize getD b::M6 b 32=Y at *;generalize encI (0::zI 32)=z at *;generalize E3Q 256 (Cell.i .u8 0)=zz at *;simp only [esc,esh,Nat.reduceAdd,Nat.reduceMul,Nat.reduceLT,c0,hX,hP,hz0,hI,hB,hE,hM];exact e
   ·rw [decide_eq_false ce,E3W,cond_false,cond_false];rw [decide_eq_false ce] at hE;generalize eH (getD b) (M6 b 32)=I at *;generalize encI (0::zI 32)=z at *;generalize encI (getD b::M6 b 32)=y at *;generalize E3Q 256 (Cell.i .u8 0)=zz at *;exact ⟨_,by simp only [esc,esh,Nat.reduceAdd,Nat.reduceMul,Nat.reduceLT,c0,hX,hP,hz0,hI,hB,hE,haf,hZ]<;>rfl⟩
 | e+1,i,m+1,hi,hm=>by
  obtain ⟨h',ih⟩:=D7l (g:=g) (q:=q) hb hq e (i+1) m (by omega) (by omega);have c0:(i:Int)<32:=by omega
  have hB:(A5 b).length=256:=by rw [A4,hb]
  have ht:=jZ (b:=b) (n:=i) (by omega);have hX:=D5 (d:=getD b) ht;have hA:=λh=>lQ (h:=h) hb (a:=((32+2*i:Nat):Int)) (w:=2)
  have ea:=C97 (b:=b) (a:=32+2*i) (w:=2) (by omega) (by omega) (by omega);rw [show ((2:Nat):Int)=2 from rfl] at ea;rw [ea] at hA;have w1:IntKind.wrap .i64 (2*(i:Int))=((2*i:Nat):Int):=by rw [wrap_i64 (by omega) (by omega)];omega
  have w2:IntKind.wrap .i64 (32+((2*i:Nat):Int))=((32+2*i:Nat):Int):=by rw [wrap_i64 (by omega) (by omega)];omega
  have a1:=adX (id:=g.length+2) (i:=i) (by omega);have hs:(encI (getD b::M6 b i)).set (1+i) (.i .i64 (fieldN b (32+2*i) 2))=encI (getD b::M6 b (i+1)):=by rw [B6a,C8W (by omega)];rfl
  have V7:1+i<(encI (getD b::M6 b i)).length:=by rw [hX];omega
  rw [A64];generalize T6 b=G at *;generalize getD b::M6 b 32=Y at *;generalize encI (getD b::M6 b (i+1))=y1 at *;generalize encI (getD b::M6 b i)=y at *;generalize encI (0::zI 32)=z at *;refine ⟨h',?_⟩;simp only [esc,esh,Nat.reduceAdd,Nat.reduceMul,Nat.reduceLT,c0,hB,w1,w2,hA,a1,V7,hs,C6 (show i+1<9223372036854775808 by omega)];exact ih
theorem D0p {b:List UInt8} {h:A6} (hb:b.length=256):A8L [.a (A5 b)] h=some (.t [.a (encI (bif T6 b then getD b::M6 b 32 else 0::zI 32)),.c (.i .i64 (bif T6 b then 0 else 14))],h):=by
 have key:∀ N,32<N->∀ g,∃ g',A7X N [.a (A5 b)] g=some (.t [.a (encI (bif T6 b then getD b::M6 b 32 else 0::zI 32)),.c (.i .i64 (bif T6 b then 0 else 14))],g'):=by
  intro N hN g;have hB:(A5 b).length=256:=by rw [A4,hb]
  have hZ:(encI (0::zI 32)).length=33:=D5 (d:=0) G9;have hA:=λh=>lQ (h:=h) hb (a:=4) (w:=1)
  have ea:=C97 (b:=b) (a:=4) (w:=1) (by omega) (by omega) (by omega);rw [show ((4:Nat):Int)=4 from rfl,show ((1:Nat):Int)=1 from rfl] at ea;rw [ea] at hA;have ef:D9 (encI (0::zI 32)) [(0,1,iV (fieldN b 4 1))]=some (encI (getD b::M6 b 0)):=by
   have e1:(0+1<=(encI (0::zI 32)).length):=by rw [hZ];omega
   simp only [D9,cells?];rw [if_pos ⟨rfl,e1⟩];rfl
  have hX:=D5 (d:=getD b) (jZ (b:=b) (n:=0) (by omega));obtain ⟨h',e⟩:=D7l (g:=g) (q:=N) hb hN 32 0 N (by omega) hN;rw [C3n,B0w];generalize T6 b=G at *;generalize getD b::M6 b 32=Y at *;generalize encI (getD b::M6 b 0)=y at *;generalize encI (0::zI 32)=z at *;exact ⟨h',by simp only [esc,esh,Nat.reduceAdd,Nat.reduceMul,Nat.reduceLT,hB,hZ,hA,ef,hX];exact e⟩
 obtain ⟨g',e⟩:=key (h.length+33) (by omega) (ro h);refine B8i e ?_;cases T6 b<;>simp
def vG (t:List Int) (i:Nat):Bool:=!decide (toX t i=0)&&mI t i
def J4 (t:List Int) (k:Nat):List Int:=((E4m k).filter (vG t)).map (toX t)
theorem zJ {t:List Int} {k:Nat}:J4 t (k+1)=J4 t k++(if vG t k=true then [toX t k] else []):=by
 unfold J4;rw [List.range_succ,List.filter_append,E4J,List.filter_cons];by_cases c:vG t k=true<;>simp [c]
theorem eW (t:List Int) (k:Nat):(J4 t k).length<=k:=by
 unfold J4;rw [List.length_map];exact E4t (List.length_filter_le _ _) (by simp)
theorem A5S {d:Int} {t:List Int} {g:A6} {n q:Nat} (ht:t.length=32) (hn:n<=32):∀ (e i m:Nat) (h:A6) (id:Nat),i+e=n->e<m->Low (g++[rT (encI (d::t))]).length (g++[rT (encI (d::t))]) h->(g++[rT (encI (d::t))]).length<=id->rd h id=rT (encI (J4 t i)) ->
  ∃ v h',tJ q m (pV g.length 0) (sV id 0 (J4 t i).length 1) (iV (n:Int)) (iV (i:Int)) h=some (v,h')/\Out g.length h' v 1 (J4 t n).length (encI (J4 t n))
 | e,i,0,h,id,_,hm,_,_,_=>by omega
 | 0,i,m+1,h,id,hi,hm,hlow,hid,hr=>by
  have e0:i=n:=by omega
  subst e0;have c0:¬ (i:Int)<i:=by omega
  rw [E3S] at hid;rw [xN];exact ⟨_,_,by simp only [esc,c0]<;>rfl,by rw [A8];omega,_,rfl,by omega,hr⟩
 | e+1,i,m+1,h,id,hi,hm,hlow,hid,hr=>by
  have c0:(i:Int)<n:=by omega
  have hB:=D5 (d:=d) ht;have hrd:rd h g.length=rT (encI (d::t)):=hlow.rd (by simp);have s1:=B8 (h:=h) (id:=g.length) (cs:=encI (d::t)) hrd hB;have a1:=adX (id:=g.length) (i:=i) (by omega);have l1:=ldX (h:=h) (id:=g.length) hrd ht (i:=i) (by omega);have hFs:=λh=>A90 (d:=d) (t:=t) (i:=i) (h:=h) ht (by omega)
  have w1:=C6 (show i+1<9223372036854775808 by omega);have hul:=eW t i;rw [xN];have skip:vG t i=false->∃ v h',tJ q m (pV g.length 0) (sV id 0 (J4 t i).length 1) (iV (n:Int)) (iV ((i+1:Nat):Int)) h=some (v,h')/\Out g.length h' v 1 (J4 t n).length (encI (J4 t n)):=by
   intro c;have hu:J4 t (i+1)=J4 t i:=by rw [zJ,c];simp
   have:=A5S (q:=q) ht hn e (i+1) m h id (by omega) (by omega) hlow hid (by rw [hu];exact hr);rw [hu] at this;exact this
  by_cases cz:toX t i=0
  ·obtain ⟨v,h',f1,f2⟩:=skip (by unfold vG;rw [decide_eq_true cz];rfl);rw [cz] at l1;refine ⟨v,h',?_,f2⟩;generalize encI (d::t)=z at *;simp only [esc,c0,a1,l1,mK,w1];exact f1
  ·cases cs:mI t i with
   | false =>
    obtain ⟨v,h',f1,f2⟩:=skip (by unfold vG;rw [cs,E4O]);rw [cs] at hFs;refine ⟨v,h',?_,f2⟩;generalize encI (d::t)=z at *;simp only [esc,c0,a1,l1,cz,s1,hFs,mK,w1];exact f1
   | true =>
    rw [cs] at hFs;have cb:vG t i=true:=by unfold vG;rw [cs,decide_eq_false cz];rfl
    have hu:J4 t (i+1)=J4 t i++[toX t i]:=by rw [zJ,if_pos cb]
    obtain ⟨h1,b1,b2,b3,b4,b5⟩:=push (ys:=[.i .i64 (toX t i)]) (sz:=1) (n:=(J4 t i).length) hlow hr (by rw [A8];omega) hid rfl (by omega) (by omega);have he:encI (J4 t i)++[.i .i64 (toX t i)]=encI (J4 t (i+1)):=by rw [hu];simp [encI]
    rw [he] at b2;obtain ⟨v,h',f1,f2⟩:=A5S (q:=q) ht hn e (i+1) m h1 (h.length+1) (by omega) (by omega) b3 b4 b2;have hl1:(J4 t (i+1)).length=(J4 t i).length+1:=by rw [hu];simp
    rw [hl1] at f1;have ef:D9 [o0] [(0,1,iV (toX t i))]=some [.i .i64 (toX t i)]:=rfl;refine ⟨v,h',?_,f2⟩;generalize encI (d::t)=z at *;simp only [esc,c0,a1,l1,cz,s1,hFs,ef,b1,mK,w1];exact f1
theorem tH {d:Int} {t:List Int} {h:A6} (ht:t.length=32):wM [.a (encI (d::t))] h=some (sV h.length 0 (J4 t (B9 d)).length 1,h++[rT (encI (J4 t (B9 d)))]):=by
 have key:∀ N,32<N->∀ g,∃ v g',wG N [.a (encI (d::t))] g=some (v,g')/\Out g.length g' v 1 (J4 t (B9 d)).length (encI (J4 t (B9 d))):=by
  intro N hN g;have hB:=D5 (d:=d) ht;have hM:=λh=>dB (d:=d) (h:=h) ht
  have hm:=N4 d;obtain ⟨v,g',f1,f2⟩:=A5S (g:=g) (d:=d) (q:=N) ht hm (B9 d) 0 N (g++[rT (encI (d::t)),rT [],rT []]) (g.length+2) (by omega) (by omega)
   (by have:=(Low.refl (h:=g++[rT (encI (d::t))]) (E3T _)).new [rT [],rT []];simpa using this) (by simp) (by simp [J4,encI])
  rw [show J4 t 0=[] from rfl] at f1;rw [B2Y];refine ⟨v,g',?_,f2⟩;generalize encI (d::t)=z at *;simp only [esc,esh,Nat.reduceAdd,Nat.reduceMul,Nat.reduceLT,hB,hM] at f1 ⊢;exact f1
 obtain ⟨v,g',e,ho⟩:=key (h.length+33) (by omega) (ro h);exact B1h e (by simpa [E7] using ho) (by simp)
def C7N (h:Nat) (b:Int):Nat:=if b<1 then 0 else if 32<=b then h else h%2 ^ b.toNat
theorem D3C {x:Nat} {b:Int} {h:A6} (hx:x<4294967296):B8s [.c (.i .u32 (x:Int)),iV b] h=some (iV (C7N x b:Nat),h):=by
 have key:∀ g,∃ g',B7C 0 [.c (.i .u32 (x:Int)),iV b] g=some (iV (C7N x b:Nat),g'):=by
  intro g;rw [C9L];unfold C7N;by_cases c1:b<1
  ·rw [if_pos c1];exact ⟨_,by simp only [esc,c1]<;>rfl⟩
  ·rw [if_neg c1];have w1:IntKind.wrap .i64 (x:Int)=(x:Int):=wrap_i64 (by omega) (by omega);by_cases c2:32<=b
   ·rw [if_pos c2];exact ⟨_,by simp only [esc,c1,c2,w1]<;>rfl⟩
   ·rw [if_neg c2];obtain ⟨k,rfl⟩:∃ k:Nat,b=k:=⟨b.toNat,by omega⟩;have hk:k<32:=by omega
    rw [E38];have w2:=B9j (k:=k) (by omega);have hp:2 ^ k<=2 ^ 31:=Nat.pow_le_pow_right (by omega) (by omega);have hp0:0<2 ^ k:=Nat.pow_pos (by omega);have e1:N9 .shl (.c (.i .u32 1)) (.c (.i .u64 (k:Int)))=some (.c (.i .u32 ((2 ^ k:Nat):Int))):=by
     rw [B5X (by omega)];have h1:E4W (k:Int).toNat (IntKind.u32).bits=k:=by
      have:(IntKind.u32).bits=32:=rfl;rw [this,E38];exact E4N (by omega)
     rw [h1,Int.one_mul];have e:(2:Int) ^ k=((2 ^ k:Nat):Int):=by simp
     rw [e];generalize 2 ^ k=y at hp hp0 ⊢;rw [wrap_u32 (by omega) (by omega)]
    have w3:IntKind.wrap .u32 (((2 ^ k:Nat):Int)-1)=((2 ^ k-1:Nat):Int):=by rw [wrap_u32 (by omega) (by omega)];omega
    have e2:=D8I (a:=x) (b:=2 ^ k-1) hx (by omega);rw [Nat.and_two_pow_sub_one_eq_mod] at e2;have hm:x%2 ^ k<2 ^ k:=Nat.mod_lt _ hp0;have w4:IntKind.wrap .i64 ((x%2 ^ k:Nat):Int)=((x%2 ^ k:Nat):Int):=wrap_i64 (by omega) (by omega);generalize 2 ^ k-1=y at *;generalize x%2 ^ k=z at *;exact ⟨_,by simp only [esc,c1,c2,w2,e1,w3,e2,w4]<;>rfl⟩
 obtain ⟨g',e⟩:=key (ro h);exact C37 e rfl
theorem C5y {d:Int} {t:List Int} {x:Nat} {h:A6} (ht:t.length=32) (hx:x<4294967296):A2Y [.a (encI (d::t)),.c (.i .u32 (x:Int))] h=some (iV (x%B9 d:Nat),h):=by
 have key:∀ g,∃ g',A2x 0 [.a (encI (d::t)),.c (.i .u32 (x:Int))] g=some (iV (x%B9 d:Nat),g'):=by
  intro g;have hB:=D5 (d:=d) ht;have hD:=λh=>bA (d:=d) (t:=t) (h:=h)
  have hL:=λh=>D3C (x:=x) (b:=(U8 d:Nat)) (h:=h) hx
  have e:C7N x (U8 d:Nat)=x%B9 d:=by
   unfold C7N B9;have:=qD d;rw [E38];by_cases c:((U8 d:Nat):Int)<1
   ·have:U8 d=0:=by omega
    rw [if_pos c,this];simp [Nat.mod_one]
   ·rw [if_neg c,if_neg (by omega)]
  rw [e] at hL;rw [B7u];generalize encI (d::t)=y at *;exact ⟨_,by simp only [esc,esh,Nat.reduceAdd,Nat.reduceMul,Nat.reduceLT,hB,hD,hL]<;>rfl⟩
 obtain ⟨g',e⟩:=key (ro h);exact B3A e rfl
theorem C7I (b:List UInt8):(M6 b 32).length=32:=by simp [M6,zI]
end Go.Proofs.YtbnkgnfhgbhblaaGreat
namespace Go.Proofs.YtbnkgnfhgbhblaaGreat
open Go Go.Esc
set_option maxRecDepth 100000
noncomputable section
variable (n m m2:Nat) (a0 a1 x0 x1 x2 x3 x4 x6 x7 x8 x9 x10 x18 x19 x21 x22:Val) (h:A6)
def kX:FD Tryz.prog:=⟨px 0X1121121229c2e156e04b7d218011d21121224632e2a82b627a7f17a68b1c7a307a3601f627c06881c003911a4a2e2d0421c8311a022e2d3042152e2d033070242e2d0331a617c12f2e2d0422e2d03060510638802c132e2d03203011d21121224631e2a81b62487f048360631e2a8762387f038360632a2a81c9651e7f61e38b01e3605617c6388041282b0220131211012,[.c (.b true),.c (.s [46]),.c (.s [46,46]),.c (.i .u8 0),.c (.i .u8 47)],[.idxS (.t 25) (.t 26),.idxS (.t 30) (.t 31)],[.tmp 2],[]⟩
def B5c:=kX.R
def B2o:AtH:=kX.lj 0 n [m] [x0,x21,x22]
def B5U:=tT [⟨2,3,B2o⟩]
def C1u:=mR B5c kX B5U n [a0] h
def A4v:=mL kX B5U 0 n [m] [x0,x21,x22] h
def B4V:=kX.K Tryz.func243
def A5G:=kX.S
theorem A6K:SOk Tryz.prog 243 A5G:=B4V.sok
theorem B5E:E5 B5c A5G:=B4V.flat
def nY:FD Tryz.prog:=⟨px 0X1131218391de28393d39332221e82b154e07c218621fa2a2813928c0688380006507c382e17181ac611a022b2a642062152b2a42053070242b2a420531a617c12c2b2a420622b2a420506051063880032b2a420524223621fa16a13928c64f8638801d154203201683165a391de3e03e393843222241637c2a19121a54205248516101ac0713542042420331e2d8142032101e22d922022,[],[.idxS (.t 24) (.t 25)],[.cellN 2 25,.tmp 3],[cal A6K]⟩
def A72:=nY.R
def B6I:AtH:=nY.lj 0 n [m] [x0,x2,x4,x18,x19]
def C0f:=tT [⟨2,5,B6I⟩]
def C3t:=mR A72 nY C0f n [a0] h
def A7d:=mL nY C0f 0 n [m] [x0,x2,x4,x18,x19] h
def B9L:=nY.K Tryz.func244
def A8T:=nY.S
theorem A8U:SOk Tryz.prog 244 A8T:=B9L.sok
theorem B8u:E5 A72 A8T:=B9L.flat
def uD:FD Tryz.prog:=⟨px 0X1101ec212c3d133222011d03212322224672a2a826868b439683b3839683b601637c7e2e173c5221ac01a82391de1e62d912a6801e2c6919c2916101ac6e2a11876514251318851168806886507c4e1d155122011d032123222241c9657c3e1b121c41324123584164dc61c141391828d44122103062ec3112,[.c (.s []),.c (.b true)],[.slA 25 1 (.t 1) (some (.v (.c (.i .i64 1)))) (some (.t 14)),.b2s (.t 15),.eqA true (E3Q 25 (.i .u8)) (.t 25) (.t 26)],[.tmp 2,.tmp 3],[cal A8U]⟩
def A2E:=uD.R
def B7D:=mR A2E uD (tT []) n [a0] h
def B1E:=uD.K Tryz.func237
def A26:=uD.S
theorem B8v:SOk Tryz.prog 237 A26:=B1E.sok
theorem B3K:E5 A2E A26:=B1E.flat
def A1l:FD Tryz.prog:=⟨px 0X13c4161a17c4000441234111022,[.c (.b false)],[],[.tmp 4],[]⟩
def B94:=A1l.R
def C3s:=mR B94 A1l (tT []) n [a0,a1] h
def B9K:=A1l.K Tryz.func242
def A8S:=A1l.S
theorem C4a:SOk Tryz.prog 242 A8S:=B9K.sok
theorem B8t:E5 B94 A8S:=B9K.flat
def kY:FD Tryz.prog:=⟨px 0X12cc011ec41363e2a861a218d7f418d3618d1f61a118d19b3818d3018d36061e17c61c800380383d11e01954231e871483c12181dc615607c4803182461a201ac4061c61a11986e002c16391876106219c18162e07c1961a7c61a77c5a04a04a0718761052150702461a17c2e02e1b131d7610527610437610406056103358016161c8019147610423014121022,[.c (.b false)],[],[.tmp 4,.tmp 5],[cal C4a]⟩
def A5a:=kY.R
def A3x:AtH:=kY.lj 0 n [m] [x0,x1,x6,x7]
def B5V:=tT [⟨2,4,A3x⟩]
def C1v:=mR A5a kY B5V n [a0,a1] h
def A4w:=mL kY B5V 0 n [m] [x0,x1,x6,x7] h
def B4W:=kY.K Tryz.func213
def yH:=kY.S
theorem C14:SOk Tryz.prog 213 yH:=B4W.sok
theorem B5F:E5 A5a yH:=B4W.flat
def eU:FD Tryz.prog:=⟨px 0X12ac211c4d122122a81a155807c218621fa1a1e11982c03801c05182688116883801c006885607c3801c38170191a1918653631bc3161a13cc31013113fc1c041a191865362017246e2c112c1a1918653721a19186536319c01986112e6802a2a6918c1e161a201ac5e06a1f1181a19187653726c5161c1a2a119831a19185352151a19183411a070241a19183431a617c11b1a19183521a19183406051061c8018131a191834231313b813022123b91012,[.c (.s [])],[.slL 1 (.t 24) (some (.t 26)) none,.slL 1 (.t 28) (some (.t 29)) none,.copy 1 (.t 27) (.t 30)],[.tmp 2],[cal C14]⟩
def A73:=eU.R
def B6J:AtH:=eU.lj 0 n [m] [x3,x8,x9,x10]
def D0C:AtH:=eU.lj 1 n [m] [x3,x8,x9,x10]
def A9d:=tT [⟨2,4,B6J⟩,⟨2,4,D0C⟩]
def C3u:=mR A73 eU A9d n [a0] h
def A7f:=mL eU A9d 0 n [m] [x3,x8,x9,x10] h
def A7e:=mJ eU A9d 1 n [m] [x3,x8,x9,x10] h
def B9M:=eU.K Tryz.func167
def A8V:=eU.S
theorem C4b:SOk Tryz.prog 167 A8V:=B9M.sok
theorem C15:qT A73 A8V:=B9M.out
end
end Go.Proofs.YtbnkgnfhgbhblaaGreat
namespace Go.Proofs.YtbnkgnfhgbhblaaGreat
open Go Go.Esc
def aZ (c:UInt8):Bool:=!(decide ((c.toNat:Int)=0)||decide ((c.toNat:Int)=47))
def U0 (s:List UInt8):Bool:=!(decide ((s.length:Int)<1)||decide (24<(s.length:Int))||decide (s=[46])||decide (s=[46,46]))&&s.all aZ
theorem bP {s:List UInt8} (h:U0 s=true):1<=s.length/\s.length<=24:=by
 unfold U0 at h;simp at h;omega
theorem C4R (s:List UInt8) (hs:s.length<9223372036854775807) (n:Nat) (h:A6):∀ d i m:Nat,i+d=s.length->d<m ->
  B2o n m (.c (.s s)) (iV s.length) (iV i) h=some (iV (bif (s.drop i).all aZ then 0 else 3),h)
 | d,i,0,_,hm=>by omega
 | 0,i,m+1,hi,hm=>by
  have c0:¬ ((i:Int)<s.length):=by omega
  rw [A4v,show s.drop i=[] from E32 (by omega)];simp only [esc,c0,List.all_nil]
 | d+1,i,m+1,hi,hm=>by
  have h1:(i:Int)<s.length:=by omega
  have h2:i<s.length:=by omega
  have ih:=C4R s hs n h d (i+1) m (by omega) (by omega);rw [A4v,E3V h2,E4x];by_cases c1:(s[i].toNat:Int)=0
  ·have f:aZ s[i]=false:=by unfold aZ;rw [decide_eq_true c1];rfl
   simp only [esc,h1,iW h2,c1,f,E3W]
  ·by_cases c2:(s[i].toNat:Int)=47
   ·have f:aZ s[i]=false:=by unfold aZ;rw [decide_eq_true c2];simp
    simp only [esc,h1,iW h2,c1,c2,f,E3W,E4V]
   ·have f:aZ s[i]=true:=by unfold aZ;rw [decide_eq_false c1,decide_eq_false c2];rfl
    simp only [esc,h1,iW h2,c1,c2,f,E31,C6 (show i+1<9223372036854775808 by omega)];exact ih
theorem C4Q {s:List UInt8} (hs:s.length<9223372036854775807) (h:A6):A5G [.c (.s s)] h=some (iV (bif U0 s then 0 else 3),h):=by
 refine B5E (n:=s.length+1) (h2:=ro h) ?_ rfl;rw [C1u];have hl:=C4R s hs (s.length+1) (ro h) s.length 0 (s.length+1) (by omega) (by omega);rw [E39] at hl;unfold U0;by_cases c1:(s.length:Int)<1
 ·simp only [esc,c1,Bool.true_or,E3W]
 ·by_cases c2:(24:Int)<s.length
  ·simp only [esc,c1,c2,Bool.true_or,E3W,Bool.or_true]
  ·by_cases c3:s=[46]
   ·subst c3;simp only [esc];rfl
   ·by_cases c4:s=[46,46]
    ·subst c4;simp only [esc];rfl
    ·simp only [esc,c1,c2,c3,c4,Bool.or_self,E31];exact hl
def gF (s:List UInt8) (i:Nat):List UInt8:=UInt8.ofNat s.length::(s.take i++zeros (24-i))
def V5 (s:List UInt8):List UInt8:=bif U0 s then gF s s.length else zeros 25
theorem lU {s:List UInt8} {i:Nat} (hi:i<=s.length) (hs:s.length<=24):(gF s i).length=25:=by
 unfold gF;rw [E3Z,E3S,zeros_length,E4k];omega
theorem fT {s:List UInt8}:(V5 s).length=25:=by
 unfold V5;cases hf:U0 s with
 | false=>exact zeros_length
 | true=>exact lU (E3T _) (bP hf).2
theorem D52 {s:List UInt8} {i:Nat} (hi:i<s.length) (hs:s.length<=24):(gF s i).set (1+i) s[i]=gF s (i+1):=by
 unfold gF;rw [Nat.add_comm 1 i,E4B];refine congrArg (UInt8.ofNat s.length :: ·) ?_;have hlen:(List.take i s).length=i:=by simp;omega
 rw [E4p _ _ (by omega),hlen,E4y,E36 hi,E3U];refine congrArg (List.take i s ++ ·) ?_;have e:24-i=(24-(i+1))+1:=by omega
 rw [e];unfold zeros;rw [E4i,E4A];rfl
theorem C9e (s:List UInt8) (hs:s.length<=24) (h:A6) (c2:List Cell) (l2:c2.length=25) (n:Nat):∀ d i m:Nat,i+d=s.length->d<m ->
  B6I n m (.c (.s s)) (pV h.length 0) (pV (h.length+1) 0) (iV s.length) (iV i) (h++[rT c2,rT (A5 (gF s i))]) =
   some (.t [.a (A5 (gF s s.length)),.c o0],h++[rT (A5 (gF s s.length)),rT (A5 (gF s s.length))])
 | d,i,0,_,hm=>by omega
 | 0,i,m+1,hi,hm=>by
  have h1:¬ ((i:Int)<s.length):=by omega
  have e:i=s.length:=by omega
  subst e;have hl:(A5 (gF s s.length)).length=25:=by rw [A4];exact lU (E3T _) hs
  rw [A7d];simp only [esc,esh,Nat.reduceAdd,Nat.reduceMul,Nat.reduceLT,h1,hl,l2]
 | d+1,i,m+1,hi,hm=>by
  have h1:(i:Int)<s.length:=by omega
  have h3:i<s.length:=by omega
  have hl:(A5 (gF s i)).length=25:=by rw [A4];exact lU (by omega) hs
  have ih:=C9e s hs h c2 l2 n d (i+1) m (by omega) (by omega);have e1:IntKind.wrap .i64 (1+(i:Int))=((1+i:Nat):Int):=by rw [wrap_i64 (by omega) (by omega)];omega
  have ea:J2 25 1 (pV (h.length+1) 0) (iV ((1+i:Nat):Int))=some (pV (h.length+1) (1+i)):=by rw [J3 (by omega)];simp
  have ho:1+i<(A5 (gF s i)).length:=by omega
  rw [A7d];simp only [esc,esh,Nat.reduceAdd,Nat.reduceMul,Nat.reduceLT,h1,e1,iW h3,ea,ho,jV,D52 h3 hs,C6 (show i+1<9223372036854775808 by omega)];exact ih
theorem D4R {s:List UInt8} (hs:s.length<9223372036854775807) (h:A6) :
  A8T [.c (.s s)] h=some (.t [.a (A5 (V5 s)),.c (.i .i64 (bif U0 s then 0 else 3))],h):=by
 have key:∀ g,∃ g',A72 (s.length+1) [.c (.s s)] g=some (.t [.a (A5 (V5 s)),.c (.i .i64 (bif U0 s then 0 else 3))],g'):=by
  intro g;have hz:=I3 25;have hl:(A5 (zeros 25)).length=25:=by rw [A4];exact zeros_length
  rw [C3t,hz];unfold V5;cases hf:U0 s with
  | false =>
   generalize zeros 25=Z at *;exact ⟨_,by simp only [esc,esh,Nat.reduceAdd,Nat.reduceMul,Nat.reduceLT,C4Q hs,hf,hl,E4V]<;>rfl⟩
  | true =>
   have E3b:=(bP hf).2;have e0:(A5 (zeros 25)).set 0 (.i .u8 (IntKind.wrap .u8 s.length))=A5 (gF s 0):=by
    rw [wrap_u8 (by omega) (by omega)];have:((s.length:Nat):Int)=((UInt8.ofNat s.length).toNat:Int):=by rw [UInt8.toNat_ofNat'];omega
    rw [this,jV];rfl
   have:=C9e s E3b g (A5 (zeros 25)) hl (s.length+1) s.length 0 (s.length+1) (by omega) (by omega);rw [<-e0] at this;generalize zeros 25=Z at *;have a0:J2 25 1 (pV (g.length+1) 0) (iV 0)=some (pV (g.length+1) 0):=rfl;have ho:0<(A5 Z).length:=by omega
   exact ⟨_,by simp only [esc,esh,Nat.reduceAdd,Nat.reduceMul,Nat.reduceLT,C4Q hs,hf,a0,ho];exact this⟩
 obtain ⟨g',e⟩:=key (ro h);exact B8u e (by simp)
def cM (l:List UInt8):Option (List UInt8) :=
 if (l.headD 0).toNat<=24 then
  if U0 ((l.drop 1).take (l.headD 0).toNat)=true/\V5 ((l.drop 1).take (l.headD 0).toNat)=l then some ((l.drop 1).take (l.headD 0).toNat) else none
 else none
theorem D6t {l:List UInt8} (hl:l.length=25) (h:A6) :
  A26 [.a (A5 l)] h=some (.t [.c (.s ((cM l).getD [])),.c (.i .i64 (if (cM l).isSome then 0 else 3))],h):=by
 have key:∀ g,∃ g',A2E 0 [.a (A5 l)] g=some (.t [.c (.s ((cM l).getD [])),.c (.i .i64 (if (cM l).isSome then 0 else 3))],g'):=by
  intro g;obtain ⟨x,r,rfl⟩:∃ x r,l=x::r:=by
   cases l with
   | nil=>simp at hl
   | cons x r=>exact ⟨x,r,rfl⟩
  have hx:=x.toNat_lt;rw [B7D];have a0:J2 25 1 (pV g.length 0) (iV 0)=some (pV g.length 0):=rfl;have l0:(A5 (x::r))[0]?=some (.i .u8 x.toNat):=rfl;have e1:IntKind.wrap .i64 (x.toNat:Int)=x.toNat:=wrap_i64 (by omega) (by omega);have bJ:(A5 (x::r)).length=25:=by rw [A4,hl]
  unfold cM;simp only [List.headD_cons,List.drop_succ_cons,E39];by_cases c1:x.toNat<=24
  ·rw [if_pos c1];have c1':¬ (24:Int)<x.toNat:=by omega
   have e2:IntKind.wrap .i64 (1+(x.toNat:Int))=((1+x.toNat:Nat):Int):=by rw [wrap_i64 (by omega) (by omega)];omega
   have e3:=E1r (h:=g) (l:=[rT (A5 (x::r))]) (k:=0) (n:=25) (a:=1) (b:=1+x.toNat) (cs:=A5 (x::r)) rfl bJ (by omega) (by omega);rw [E4U,show 1+x.toNat-1=x.toNat by omega,show ((1:Nat):Int)=1 from rfl] at e3;have hh:Has (g++[rT (A5 (x::r))]) (sV g.length 1 x.toNat 1) 1 x.toNat (A5 (r.take x.toNat)):=Has.part S9 (by omega) (by
    rw [C8O,C8P];simp) (F6 _)
   have hs:(r.take x.toNat).length<9223372036854775807:=by simp;omega
   have hp:=D4R hs (g++[rT (A5 (x::r))]);have hpl:(A5 (V5 (r.take x.toNat))).length=25:=by rw [A4,fT]
   have hz:(E3Q 25 (Cell.i .u8 0)).length=25:=E4g;have hq:=D4j (l:=V5 (r.take x.toNat)) (m:=x::r) fT hl;generalize E3Q 25 (Cell.i .u8 0)=z at *;cases hf:U0 (r.take x.toNat) with
   | false =>
    rw [hf] at hp;rw [if_neg (by simp)];exact ⟨_,by simp only [esc,esh,Nat.reduceAdd,Nat.reduceMul,Nat.reduceLT,a0,l0,e1,c1',e2,e3,hh.str,hp,hpl,hz,E4V,E4F,E4d,E4M]<;>rfl⟩
   | true =>
    rw [hf] at hp;by_cases c2:V5 (r.take x.toNat)=x::r
    ·rw [if_pos ⟨rfl,c2⟩];exact ⟨_,by simp only [esc,esh,Nat.reduceAdd,Nat.reduceMul,Nat.reduceLT,a0,l0,e1,c1',e2,e3,hh.str,hp,hpl,hz,bJ,hq,decide_eq_true c2,E4V,E4w,E33,E4M]<;>rfl⟩
    ·rw [if_neg (λh=>c2 h.2)];exact ⟨_,by simp only [esc,esh,Nat.reduceAdd,Nat.reduceMul,Nat.reduceLT,a0,l0,e1,c1',e2,e3,hh.str,hp,hpl,hz,bJ,hq,decide_eq_false c2,E4V,E4F,E4d,E4M]<;>rfl⟩
  ·rw [if_neg c1];have c1':(24:Int)<x.toNat:=by omega
   exact ⟨_,by simp only [esc,esh,Nat.reduceAdd,Nat.reduceMul,Nat.reduceLT,a0,l0,e1,c1',E4F,E4d,E4M]<;>rfl⟩
 obtain ⟨g',e⟩:=key (ro h);exact B3K e (by simp)
end Go.Proofs.YtbnkgnfhgbhblaaGreat
namespace Go.Proofs.YtbnkgnfhgbhblaaGreat
open Go Go.Esc
set_option maxRecDepth 100000
noncomputable section
variable (n m m2:Nat) (a0 a1 a2 a3 x0 x1 x2 x3 x4 x6 x7 x11 x16 x17 x18 x34 x35 x36:Val) (h:A6)
def oX:FD Tryz.prog:=⟨px 0X12c21628967c5607c0042121211012,[],[],[.tmp 2],[]⟩
def zV:=oX.R
def B4Z:=mR zV oX (tT []) n [a0] h
def A7B:=oX.K Tryz.func216
def A0i:=oX.S
theorem pH:SOk Tryz.prog 216 A0i:=A7B.sok
theorem B09:E5 zV A0i:=A7B.flat
def xR:FD Tryz.prog:=⟨px 0X118821362a2a81889619397f6391f14394f60362a2a85641f7f61f1f141f4f601627c6101ac61c044c1f2123062ec2112,[.c (.b false)],[],[.tmp 2],[cal A6K]⟩
def A4V:=xR.R
def C1a:=mR A4V xR (tT []) n [a0] h
def B4B:=xR.K Tryz.func215
def A5f:=xR.S
theorem wJ:SOk Tryz.prog 215 A5f:=B4B.sok
theorem B5k:E5 A4V A5f:=B4B.flat
def kL:FD Tryz.prog:=⟨px 0X11cc2161a13cc71471371271171051a513fc1c2f142121b83161a13cc06881c2c1431219c01982391de1e42d912e6802a2a6918c1e16101ac61c041f4d1943226c316112e10218213fc64f8361c7c61c144c64f861c1464d19312213b862ec2112,[.c (.i .u64 8),.c (.i .u8 0)],[.slA 25 1 (.t 4) none none],[.tmp 2],[cal A8U]⟩
def sI:=kL.R
def B05:=mR sI kL (tT []) n [a0] h
def A3G:=kL.K Tryz.func217
def sL:=kL.S
theorem mH:SOk Tryz.prog 217 sL:=A3G.sok
theorem A8d:qT sI sL:=A3G.out
def gI:FD Tryz.prog:=⟨px 0X175122821de5826e39354220135122821de0293e83542224675a2a863a31ac7f211ac68b28961e351ac1af6101ac1af41ac3184881ac3b01ac68b6141ac1af5821ac3b60672a2a8619a2bf61319a1af58219a3b601637c4c4b1280196c1a4331a423298221de12901a2df6112e102293e81961e321ac6101ac401848838483d171191a19421531e801dc18112a6801e3b691d83816111ac3839393971918421521bc1b156a07c218621fa4a3813928c61c618148828c61a07c5e019607c6101ac403e1e11a186c711a021b7642162151b642153070241b6421531cd617c11c1b6421621b64215060511b111b6421526421431e2d81642142302942d9022ed342132,[.c (.b false),.c (.b true)],[.b2sN none (.t 44),.b2sN none (.t 49)],[.cellN 4 2,.tmp 5],[cal pH,cal B8v,cal vC,cal wJ,cal mH,cal A5H]⟩
def A2r:=gI.R
def A9l:AtH:=gI.lj 0 n [m] [x1,x2,x4,x6,x11]
def B1T:=tT [⟨2,5,A9l⟩]
def B7i:=mR A2r gI B1T n [a0,a1] h
def A1S:=mL gI B1T 0 n [m] [x1,x2,x4,x6,x11] h
def B1q:=gI.K Tryz.func203
def A2Q:=gI.S
theorem A3P:SOk Tryz.prog 203 A2Q:=B1q.sok
theorem B25:E5 A2r A2Q:=B1q.flat
def mW:FD Tryz.prog:=⟨px 0X17311312241fa61e33cc63012c133fc1e33841c50230022ed22122,[.c (.b false),.c (.b true)],[],[.tmp 3],[]⟩
def A6A:=mW.R
def zU:=mR A6A mW (tT []) n [a0,a1] h
def A6u:=mW.K Tryz.func212
def mZ:=mW.Q
theorem B23:SOk Tryz.prog 212 mZ:=A6u.ok
theorem A0h:OfT A6A mZ:=A6u.of
def P5:FD Tryz.prog:=⟨px 0X1cc7153c07c2180124363e2a864b2bf612a4b5ef6211a1022c4b3eb7e24b3b7e4b344b3605a2811938721427c078221de2952d912e6802a1e696c1a161a201ac4a04e4881b3919765421624c411a02742142157213307024721333d617c1187214272130605171172132022ed12122,[.c (.b false)],[],[],[cal A3P,cal B23]⟩
def rF:=P5.R
def qY:N1:=P5.E
def pY:AtH:=P5.lj 0 n [m] [x1,x2,x7]
def rM:TT:=⟨qY,[⟨2,3,pY⟩]⟩
def A2o:=mR rF P5 rM n [a0,a1] h
def mB:=mL P5 rM 0 n [m] [x1,x2,x7] h
def rB:=P5.K Tryz.func150
def gT:=P5.Q
theorem A2N:SOk Tryz.prog 150 gT:=rB.ok
theorem A2M:OfT rF gT:=rB.of
def tR:FD Tryz.prog:=⟨px 0X13c212a1c221261a201ac1a13ac5d8448838331222d81312233b862ec2112,[],[],[.tmp 2],[cal A2N]⟩
def uH:=tR.R
def B7f:=mR uH tR (tT []) n [a0] h
def A2l:=tR.K Tryz.func165
def uI:=tR.S
theorem A3O:SOk Tryz.prog 165 uI:=A2l.sok
theorem B5f:E0i uH uI:=A2l.low
theorem B5g:qT uH uI:=A2l.out
def bM:FD Tryz.prog:=⟨px 0X16c5162bc4e1c3512074a1fa24e31de3e3383182461a27c41c61c064c11a4c51a432423101a30042ed2432142,[.c (.b false),.c (.b true)],[],[.tmp 5],[]⟩
def A6z:=bM.R
def B8U:AtH:=bM.lj 0 n [] [x3]
def A6M:=tT [⟨1,1,B8U⟩]
def zT:=mR A6z bM A6M n [a0,a1,a2,a3] h
def xK:=mJ bM A6M 0 n [] [x3] h
def A6t:=bM.K Tryz.func151
def fY:=bM.Q
theorem B21:SOk Tryz.prog 151 fY:=A6t.ok
theorem A0g:OfT A6z fY:=A6t.of
def O9:FD Tryz.prog:=⟨px 0X1cc7153c07c2180124363e2a864b2bf612a4b5ef6211a1022c4b3eb7e24b3b7e4b344b3605a2811938721427c078221de2952d912e6802a1e696c1a161a201ac4a04e4881b3919765421624c411a02742142157213307024721333d617c1187214272130605171172132022ed12122,[.c (.b false)],[],[],[cal A3P,cal B21]⟩
def rD:=O9.R
def qX:N1:=O9.E
def pX:AtH:=O9.lj 0 n [m] [x1,x2,x7]
def rJ:TT:=⟨qX,[⟨2,3,pX⟩]⟩
def A2n:=mR rD O9 rJ n [a0,a1] h
def mA:=mL O9 rJ 0 n [m] [x1,x2,x7] h
def rA:=O9.K Tryz.func150
def gR:=O9.Q
theorem A2L:SOk Tryz.prog 150 gR:=rA.ok
theorem A2K:OfT rD gR:=rA.of
def tQ:FD Tryz.prog:=⟨px 0X1685112e11c164a31de2e1c2e338201b542361a201ac1a1e3a32af5d83a48838376432321fa42d8276432522c2d81643242302c2d842ec022ed443232,[.c (.b false)],[],[.cellN 4 3,.tmp 5],[cal A2L]⟩
def A2m:=tQ.R
def B7e:=mR A2m tQ (tT []) n [a0,a1] h
def B1n:=tQ.K Tryz.func81
def A2J:=tQ.S
theorem A3N:SOk Tryz.prog 81 A2J:=B1n.sok
theorem B22:E5 A2m A2J:=B1n.flat
def tS:FD Tryz.prog:=⟨px 0X1204881de6101ac64ac1f131b12711310419413fc40121c02d91012,[.c (.i .u8 98),.c (.i .u8 107),.c (.i .u8 116),.c (.i .u8 33)],[],[.cellN 0 256],[cal A1L]⟩
def A2p:=tS.R
def B7g:=mR A2p tS (tT []) n [] h
def B1o:=tS.K Tryz.func214
def A2O:=tS.S
theorem B7L:SOk Tryz.prog 214 A2O:=B1o.sok
theorem B24:E5 A2p A2O:=B1o.flat
def bQ:FD Tryz.prog:=⟨px 0X11312184881de284886e39332223ac4c1518e06d7d218012d312184881de01c3e8332222461a37c3c061c04c684d46b4c4b4a42622fc02f8231de2c192d913a6802e5e692ec59161e251ac61c0484c284885a391a4c4b4a19742722c84821de2b87129182d962381e2e21981a064c4b4a1874272354c4b4a4253270244c4b4a42531a617c14d4c4b4a42624c4b4a42516251061c804a134c4b4a4252422328c2a157e07c2182284881de61e2e341ac26131ac382386121ac2c0284883b395019015312184881de01c3e8332222462bc6111ac3822f393392a2928654201922a2928654201831b83821de1a8512962d962381e2e21981a062a292865420182152a292842063070242a2928420631a617c12b2a2928420722a2928420606051061c8028132a292842062420337c24881de1c42d9001f1ad342032015d3126a4881de01c3e833222243d657c61c801b131d20322023101c22d922022,[],[],[.cellN 2 256,.tmp 3],[cal B7L,cal wJ,cal pH,cal mH,cal A5I,cal A3N]⟩
def A4T:=bQ.R
def B1Z:AtH:=bQ.lj 0 n [m] [x0,x2,x4,x16,x17,x18]
def B10:AtH:=bQ.lj 1 n [m] [x2,x4,x34,x35,x36]
def A5M:=tT [⟨2,6,B1Z⟩,⟨2,5,B10⟩]
def C08:=mR A4T bQ A5M n [a0] h
def A31:=mL bQ A5M 0 n [m] [x0,x2,x4,x16,x17,x18] h
def A32:=mL bQ A5M 1 n [m] [x2,x4,x34,x35,x36] h
def B4z:=bQ.K Tryz.func171
def A5d:=bQ.S
theorem C1y:SOk Tryz.prog 171 A5d:=B4z.sok
theorem B5h:E5 A4T A5d:=B4z.flat
def tU:FD Tryz.prog:=⟨px 0X117127a21de6111a1022d3e818061a07c406101ac01f118762201197124a21de02d3e83762224631e2a83d642c7f02c3601617c0061d621052621043102d62d92621042,[.c (.b true)],[],[.cellN 6 2,.tmp 7],[cal pH]⟩
def A2q:=tU.R
def B7h:=mR A2q tU (tT []) n [a0,a1,a2] h
def B1p:=tU.K Tryz.func218
def A2P:=tU.S
theorem B7M:SOk Tryz.prog 218 A2P:=B1p.sok
theorem B5j:E0i A2q A2P:=B1p.low
def xQ:FD Tryz.prog:=⟨px 0X11bc5162821de11a680668611e321ac6111ac1c23802a11854220155126e21de02d3e83542224362a2a86392bf610391af5a2393b60361e2a83d61297f0293601647c001b284304243033102d2d8432ed343032,[.c (.b false)],[],[.cellN 4 2,.tmp 5],[cal wJ,cal mH,cal B7M]⟩
def A4U:=xQ.R
def C09:=mR A4U xQ (tT []) n [a0,a1] h
def B4A:=xQ.K Tryz.func172
def A5e:=xQ.S
theorem C1z:SOk Tryz.prog 172 A5e:=B4A.sok
theorem B5i:D4h A4U A5e:=B4A.tidy
end
end Go.Proofs.YtbnkgnfhgbhblaaGreat
namespace Go.Proofs.YtbnkgnfhgbhblaaGreat
open Go Go.Esc
theorem D0J {g:A6} {l l':List (Option Row)} {v:Val} {cs:List Cell} (hl:l'=l++[rT cs]):quiet (g++l) (some (v,g++l'))=some (v,g++l'):=by
 subst hl;have:=U6 ((Grows.rfl' (h:=g++l)).new cs) (v:=v);rw [E3U] at this;exact this
theorem E1k {g:A6} {a:Option Row} {v:Val} {cs:List Cell}:quiet (g++[a]) (some (v,g++[a,rT cs]))=some (v,g++[a,rT cs]):=D0J rfl
theorem E1l {g:A6} {a b:Option Row} {v:Val} {cs:List Cell}:quiet (g++[a,b]) (some (v,g++[a,b,rT cs]))=some (v,g++[a,b,rT cs]):=D0J rfl
theorem D73 {g:A6} {a b c d:Option Row} {v:Val} {cs:List Cell}:quiet (g++[a,b,c,d]) (some (v,g++[a,b,c,d,rT cs]))=some (v,g++[a,b,c,d,rT cs]):=D0J rfl
theorem D74 {g:A6} {a b c d e:Option Row} {v:Val} {cs:List Cell}:quiet (g++[a,b,c,d,e]) (some (v,g++[a,b,c,d,e,rT cs]))=some (v,g++[a,b,c,d,e,rT cs]):=D0J rfl
def J1 (k:Nat):Nat:=32+32*k
theorem nD {k:Nat} {h:A6} (hk:k<7):A0i [iV (k:Int)] h=some (iV (J1 k:Nat),h):=by
 have key:∀ g,∃ g',zV 0 [iV (k:Int)] g=some (iV (J1 k:Nat),g'):=by
  intro g;have w1:=C6 (show k+1<9223372036854775808 by omega);have w2:IntKind.wrap .i64 (32*((k+1:Nat):Int))=((J1 k:Nat):Int):=by unfold J1;rw [wrap_i64 (by omega) (by omega)];omega
  rw [B4Z];exact ⟨_,by simp only [esc,w1,w2]<;>rfl⟩
 obtain ⟨g',e⟩:=key (ro h);exact B09 e rfl
def B1l:List UInt8:=[98,107,116,33]
def hdB:List UInt8:=N5 256 B1l
theorem A55:hdB.length=256:=F5 (by decide)
theorem C4K {h:A6}:A2O [] h=some (.a (A5 hdB),h):=by
 have key:∀ g,∃ g',A2p 0 [] g=some (.a (A5 hdB),g'):=by
  intro g;have hz:(A5 (zeros 256)).length=256:=by rw [A4];exact zeros_length
  have hd:(A5 hdB).length=256:=by rw [A4];exact A55
  have ef:D9 [Cell.i .u8 0,.i .u8 0,.i .u8 0,.i .u8 0] [(0,1,.c (.i .u8 98)),(1,1,.c (.i .u8 107)),(2,1,.c (.i .u8 116)),(3,1,.c (.i .u8 33))]=some (A5 B1l):=rfl;have hO:=B0X (data:=B1l) (v:=sV (g.length+1) 0 4 1) (nv:=4) (h:=g++[rT (A5 (zeros 256)),rT (A5 B1l)]) (Has.row (rw:=true) (by simp) rfl (F6 _)) (by decide);rw [C52 (by decide),show N5 256 B1l=hdB from rfl] at hO;have hM:xJ (g++[rT (A5 (zeros 256)),rT (A5 B1l)]) (sV (g.length+1) 0 4 1)=some (sV (g.length+1) 0 4 1):=by simp [xJ]
  rw [B7g,I3];generalize hdB=B at *;generalize A5 B1l=mg at *;generalize zeros 256=z at *;exact ⟨_,by simp only [esc,esh,Nat.reduceAdd,Nat.reduceMul,Nat.reduceLT,ef,hM,hO,hz,hd]<;>rfl⟩
 obtain ⟨g',e⟩:=key (ro h);exact B24 e (by simp)
def A09 (s:List UInt8) (n:Int):Bool:=U0 s&&(decide (1<=n)&&decide (n<=128))
theorem A3h {s:List UInt8} {n:Int} {h:A6} (hs:s.length<9223372036854775807):A5f [.a [.s s,.i .i64 n]] h=some (bV (A09 s n),h):=by
 have key:∀ g,∃ g',A4V 0 [.a [.s s,.i .i64 n]] g=some (bV (A09 s n),g'):=by
  intro g;have hC:=λh=>C4Q hs h
  rw [C1a];unfold A09;cases hf:U0 s with
  | false =>
   rw [hf] at hC;exact ⟨_,by simp only [esc,esh,Nat.reduceAdd,Nat.reduceMul,Nat.reduceLT,hC,E4V]<;>rfl⟩
  | true =>
   rw [hf] at hC;by_cases c1:1<=n
   ·by_cases c2:n<=128
    ·rw [decide_eq_true c1,decide_eq_true c2];exact ⟨_,by simp only [esc,esh,Nat.reduceAdd,Nat.reduceMul,Nat.reduceLT,hC,c1,c2]<;>rfl⟩
    ·rw [decide_eq_true c1,decide_eq_false c2];exact ⟨_,by simp only [esc,esh,Nat.reduceAdd,Nat.reduceMul,Nat.reduceLT,hC,c1,c2]<;>rfl⟩
   ·rw [decide_eq_false c1];exact ⟨_,by simp only [esc,esh,Nat.reduceAdd,Nat.reduceMul,Nat.reduceLT,hC,c1]<;>rfl⟩
 obtain ⟨g',e⟩:=key (ro h);exact B5k e rfl
def W7 (s:List UInt8) (n:Int):List UInt8:=A9 2 n++V5 s++[0,0,0,0,0]
theorem W8 {s:List UInt8} {n:Int}:(W7 s n).length=32:=by simp [W7,fT]
theorem pZ {s:List UInt8} {n:Int} {h:A6} (hs:s.length<9223372036854775807):sL [.a [.s s,.i .i64 n]] h=some (sV h.length 0 32 1,h++[rT (A5 (W7 s n))]):=by
 have key:∀ g,∃ v g',sI 0 [.a [.s s,.i .i64 n]] g=some (v,g')/\Out g.length g' v 1 32 (A5 (W7 s n)):=by
  intro g;have e4:N9 .shr (iV n) (.c (.i .u64 8))=some (iV (n/256)):=C4v (by omega);have wm:∀ a:Int,IntKind.wrap .u8 a=a%256:=λa=>by
   simp only [IntKind.wrap,IntKind.bits,IntKind.signed,E3W];rfl
  have b0:IntKind.wrap .u8 n=((byI n 0).toNat:Int):=by rw [wm,yK];simp
  have b1:IntKind.wrap .u8 (n/256)=((byI n 1).toNat:Int):=by rw [wm,yK];simp
  have ef:D9 [Cell.i .u8 0,.i .u8 0] [(0,1,.c (.i .u8 (byI n 0).toNat)),(1,1,.c (.i .u8 (byI n 1).toNat))]=some (A5 (A9 2 n)):=rfl;have ef5:D9 [Cell.i .u8 0,.i .u8 0,.i .u8 0,.i .u8 0,.i .u8 0] [(0,1,.c (.i .u8 0)),(1,1,.c (.i .u8 0)),(2,1,.c (.i .u8 0)),(3,1,.c (.i .u8 0)),(4,1,.c (.i .u8 0))]=some (A5 [0,0,0,0,0]):=rfl;have hP:=λh=>D4R hs h
  have hpl:(A5 (V5 s)).length=25:=by rw [A4];exact fT
  have hz:(A5 (zeros 25)).length=25:=by rw [A4];exact zeros_length
  have hA:=jL (h:=g++[rT [.s s,.i .i64 n],rT [],rT (A5 (A9 2 n)),rT (A5 (V5 s))]) (id:=g.length+2) (jd:=g.length+3) (n:=2) (m:=25) (sz:=1) (cs:=A5 (A9 2 n)) (ys:=A5 (V5 s)) (rw:=true) (by simp) (by simp [A4]) (by simp) (by rw [hpl]) rfl (by omega) (by omega);simp only [E3S,E3Z,E4h,E4b,E3U,E4l,E37,qQ,E4B,E4A,Nat.reduceAdd,<-J7] at hA;have E0O:(A5 (A9 2 n++V5 s)).length=27*1:=by rw [A4,E3S,O6,fT]
  have hA2:=jL (h:=g++[rT [.s s,.i .i64 n],rT [],none,rT (A5 (V5 s)),rT (A5 (A9 2 n++V5 s)),rT (A5 [0,0,0,0,0])]) (id:=g.length+4) (jd:=g.length+5) (n:=27) (m:=5) (sz:=1) (cs:=A5 (A9 2 n++V5 s)) (ys:=A5 [0,0,0,0,0]) (rw:=true) (by simp) E0O (by simp) rfl rfl (by omega) (by omega);simp only [E3S,E3Z,E4h,E4b,E3U,E4l,E37,qQ,E4B,E4A,Nat.reduceAdd,<-J7] at hA2;rw [<-E3U (A9 2 n),show A9 2 n++V5 s++[0,0,0,0,0]=W7 s n from rfl] at hA2;rw [B05,I3];refine ⟨sV (g.length+6) 0 32 1,g++[rT [.s s,.i .i64 n],rT [],none,rT (A5 (V5 s)),none,rT (A5 [0,0,0,0,0]),rT (A5 (W7 s n))],?_,by rw [A4,W8],g.length+6,rfl,by omega,?_⟩
  ·generalize W7 s n=E at *;generalize A9 2 n++V5 s=Q at *;generalize A5 [0,0,0,0,0]=F at *;generalize A5 (V5 s)=P at *;generalize A5 (A9 2 n)=B2 at *;generalize zeros 25=z at *;simp only [esc,esh,Nat.reduceAdd,Nat.reduceMul,Nat.reduceLT,b0,e4,b1,ef,hP,hpl,hz,hA,ef5,hA2]
  ·simp
 obtain ⟨v,g',e,ho⟩:=key (ro h);exact A8d e (by simpa [E7] using ho) (by simp)
def A00 (b:List UInt8) (k:Nat):List UInt8:=(b.drop (J1 k)).take 32
def nameB (b:List UInt8) (k:Nat):List UInt8:=(b.drop (J1 k+2)).take 25
def bY (b:List UInt8) (k:Nat):Int:=fieldN b (J1 k) 2
abbrev Ent:=List UInt8 × Int
def isE (b:List UInt8) (k:Nat) (s:List UInt8):Bool:=A09 s (bY b k)&&decide (W7 s (bY b k)=A00 b k)
def Q9 (b:List UInt8) (k:Nat):Option Ent:=(cM (nameB b k)).bind λs=>if isE b k s=true then some (s,bY b k) else none
def U9:Option Ent->List Cell
 | none=>[.s [],o0]
 | some e=>[.s e.1,.i .i64 e.2]
theorem B66 {b:List UInt8} {k:Nat} (hb:b.length=256) (hk:k<7):(A00 b k).length=32:=by simp [A00,J1,hb];omega
theorem A6d {b:List UInt8} {k:Nat} (hb:b.length=256) (hk:k<7):(nameB b k).length=25:=by simp [nameB,J1,hb];omega
theorem A6q {l s:List UInt8} (h:cM l=some s):U0 s=true:=by
 unfold cM at h;split at h
 ·split at h
  ·rename_i hc;cases h;exact hc.1
  ·cases h
 ·cases h
def cpN (l:List UInt8) (i:Nat):List UInt8:=l.take i++zeros (25-i)
theorem D3k {l:List UInt8} {i:Nat} (hl:l.length=25) (hi:i<=25):(cpN l i).length=25:=by simp [cpN,zeros,hl];omega
theorem D8X {l:List UInt8} {i:Nat} (hl:l.length=25) (hi:i<25):(cpN l i).set i l[i]=cpN l (i+1):=by
 unfold cpN;have hlen:(List.take i l).length=i:=by simp;omega
 rw [E4p _ _ (by omega),hlen,E4y,E36 (by omega),E3U];refine congrArg (List.take i l ++ ·) ?_;have e:25-i=(25-(i+1))+1:=by omega
 rw [e];unfold zeros;rw [E4i,E4A];rfl
theorem D8W {l:List UInt8} (hl:l.length=25):cpN l 25=l:=by simp [cpN,zeros,E3Y,hl]
theorem D1O {b:List UInt8} {k:Nat}:bI b (J1 k:Nat) 32=A00 b k:=by
 unfold bI A00;rw [if_pos (by omega)];simp
theorem D4s {b:List UInt8} {k:Nat} (hk:k<7):((atN b (J1 k:Nat) 2:Nat):Int)=bY b k:=by
 unfold atN bY fieldN J1;rw [if_pos ⟨by omega,N0.2 (by omega)⟩];simp only [E38];rfl
theorem C4I {b:List UInt8} {k q:Nat} {g:A6} (hb:b.length=256) (hk:k<7):∀ e i m:Nat,i+e=25->e<m ->
  ∃ h',A9l q m (iV (k:Int)) (pV g.length 0) (pV (g.length+1) 0) (pV (g.length+2) 0) (iV (i:Int)) (g++[rT (A5 b),rT [.s [],o0],rT (A5 (cpN (nameB b k) i))]) =
   some (.t [.a (U9 (Q9 b k)),.c (.b (Q9 b k).isSome)],h')
 | e,i,0,_,hm=>by omega
 | 0,i,m+1,hi,hm=>by
  have e0:i=25:=by omega
  subst e0;have hnl:=A6d hb hk;rw [D8W hnl];have c0:¬ ((25:Nat):Int)<25:=by omega
  have hbl:(A5 b).length=256:=by rw [A4,hb]
  have hnc:(A5 (nameB b k)).length=25:=by rw [A4,hnl]
  have hU:=λh=>D6t hnl h
  have hF:=λh=>nD (h:=h) hk
  have hA:=λh=>lQ (h:=h) hb (a:=(J1 k:Nat)) (w:=2)
  rw [D4s hk] at hA;have ef:∀ (s:List UInt8) (n:Int),D9 [Cell.s [],o0] [(0,1,.c (.s s)),(1,1,iV n)]=some [.s s,.i .i64 n]:=λ_ _=>rfl
  have ef0:D9 [Cell.s [],o0] []=some [.s [],o0]:=rfl;rw [A1S];unfold Q9;cases hu:cM (nameB b k) with
  | none =>
   rw [hu] at hU;simp only [E4F,E4d,E4M,if_false] at hU;generalize bY b k=n at *;generalize A5 (nameB b k)=z at *;generalize A5 b=y at *;exact ⟨_,by simp only [esc,esh,Nat.reduceAdd,Nat.reduceMul,Nat.reduceLT,c0,hbl,hnc,hU,hF,hA,ef,ef0,E4V,Option.bind_none,U9]<;>rfl⟩
  | some s =>
   rw [hu] at hU;simp only [E4w,E33,if_true] at hU;have hfs:=(bP (A6q hu)).2;have hM:=λh=>A3h (s:=s) (n:=bY b k) (h:=h) (by omega)
   rw [E3X];unfold isE;cases hm:A09 s (bY b k) with
   | false =>
    rw [hm] at hM;rw [E3W,if_neg (by simp)];generalize bY b k=n at *;generalize A5 (nameB b k)=z at *;generalize A5 b=y at *;exact ⟨_,by simp only [esc,esh,Nat.reduceAdd,Nat.reduceMul,Nat.reduceLT,c0,hbl,hnc,hU,hF,hA,ef,ef0,hM,E4V,U9]<;>rfl⟩
   | true =>
    rw [hm] at hM;rw [E31];have hW:=λh=>pZ (s:=s) (n:=bY b k) (h:=h) (by omega)
    have lO:=B66 hb hk;have hC:=λh=>B4k (h:=h) hb (a:=(J1 k:Nat)) (n:=32)
    rw [D1O,lO] at hC;have s1:=λ(c0 c1 c2 c3:Option Row)=>Has.str (l:=W7 s (bY b k)) (Has.row (h:=g++[c0,c1,c2,c3,rT (A5 (W7 s (bY b k)))]) (id:=g.length+4) (sz:=1) (n:=32) (rw:=true) (by simp) (by rw [A4,W8]) (F6 _))
    have s2:=λ(c0 c1 c2 c3 c4:Option Row)=>Has.str (l:=A00 b k) (Has.row (h:=g++[c0,c1,c2,c3,c4,rT (A5 (A00 b k))]) (id:=g.length+5) (sz:=1) (n:=32) (rw:=true) (by simp) (by rw [A4,lO]) (F6 _))
    by_cases ce:W7 s (bY b k)=A00 b k
    ·rw [if_pos (decide_eq_true ce)];generalize W7 s (bY b k)=E at *;generalize A00 b k=L at *;generalize bY b k=n at *;subst ce;generalize A5 (nameB b k)=z at *;generalize A5 b=y at *;exact ⟨_,by simp only [esc,esh,Nat.reduceAdd,Nat.reduceMul,Nat.reduceLT,c0,hbl,hnc,hU,hF,hA,ef,ef0,hM,hW,D73,s1,hC,D74,s2,eq_self,decide_true,E4V,U9,E33]<;>rfl⟩
    ·rw [if_neg (by rw [decide_eq_true_eq];exact ce)];generalize W7 s (bY b k)=E at *;generalize A00 b k=L at *;generalize bY b k=n at *;generalize A5 (nameB b k)=z at *;generalize A5 b=y at *;exact ⟨_,by simp only [esc,esh,Nat.reduceAdd,Nat.reduceMul,Nat.reduceLT,c0,hbl,hnc,hU,hF,hA,ef,ef0,hM,hW,D73,s1,hC,D74,s2,ce,E4V,U9,E4d]<;>rfl⟩
 | e+1,i,m+1,hi,hm=>by
  obtain ⟨h',ih⟩:=C4I (q:=q) (g:=g) hb hk e (i+1) m (by omega) (by omega);have hnl:=A6d hb hk;have c0:(i:Int)<25:=by omega
  have hF:=λh=>nD (h:=h) hk
  have hbl:(A5 b).length=256:=by rw [A4,hb]
  have vQ:(A5 (cpN (nameB b k) i)).length=25:=by rw [A4];exact D3k hnl (by omega)
  have V7:i<(A5 (cpN (nameB b k) i)).length:=by omega
  have w1:IntKind.wrap .i64 (((J1 k:Nat):Int)+2)=((J1 k+2:Nat):Int):=by unfold J1;rw [wrap_i64 (by omega) (by omega)];omega
  have w2:IntKind.wrap .i64 (((J1 k+2:Nat):Int)+(i:Int))=((J1 k+2+i:Nat):Int):=by unfold J1;rw [wrap_i64 (by omega) (by omega)];omega
  have hj:J1 k+2+i<256:=by unfold J1;omega
  have a1:J2 256 1 (pV g.length 0) (iV ((J1 k+2+i:Nat):Int))=some (pV g.length (J1 k+2+i)):=by rw [J3 hj];simp
  have a2:J2 25 1 (pV (g.length+2) 0) (iV (i:Int))=some (pV (g.length+2) i):=by rw [J3 (by omega)];simp
  have ei:(nameB b k)[i]'(by omega)=b[J1 k+2+i]'(by omega):=by simp [nameB]
  have l1:(A5 b)[J1 k+2+i]?=some (.i .u8 ((nameB b k)[i]'(by omega)).toNat):=by
   rw [ei];simp [A5,hb,hj]
  have hs:(A5 (cpN (nameB b k) i)).set i (.i .u8 ((nameB b k)[i]'(by omega)).toNat)=A5 (cpN (nameB b k) (i+1)):=by rw [jV,D8X hnl (by omega)]
  rw [A1S];refine ⟨h',?_⟩;generalize A5 (cpN (nameB b k) (i+1))=z1 at *;generalize A5 (cpN (nameB b k) i)=z at *;generalize A5 b=y at *;simp only [esc,esh,Nat.reduceAdd,Nat.reduceMul,Nat.reduceLT,c0,hF,w1,w2,a1,l1,a2,V7,hs,C6 (show i+1<9223372036854775808 by omega)];exact ih
theorem C8Q {o:Option Ent}:N3 (U9 o)=true:=by cases o<;>rfl
theorem A9k {b:List UInt8} {k:Nat} {h:A6} (hb:b.length=256) (hk:k<7):A2Q [.a (A5 b),iV (k:Int)] h=some (.t [.a (U9 (Q9 b k)),.c (.b (Q9 b k).isSome)],h):=by
 have key:∀ N,25<N->∀ g,∃ g',A2r N [.a (A5 b),iV (k:Int)] g=some (.t [.a (U9 (Q9 b k)),.c (.b (Q9 b k).isSome)],g'):=by
  intro N hN g;obtain ⟨h',e⟩:=C4I (g:=g) (q:=N) hb hk 25 0 N (by omega) hN;have e0:cpN (nameB b k) 0=zeros 25:=by simp [cpN]
  rw [e0] at e;rw [B7i,I3];generalize zeros 25=z at *;generalize A5 b=y at *;exact ⟨h',by simp only [esc,esh,Nat.reduceAdd,Nat.reduceMul,Nat.reduceLT];exact e⟩
 obtain ⟨g',e⟩:=key (h.length+26) (by omega) (ro h);exact B25 e (by simp [Val.flat,C8Q,Cell.flat])
abbrev Slt:=Nat × Ent
def slC:Option Slt->List Cell
 | none=>[o0,.s [],o0]
 | some x=>[.i .i64 (x.1:Int),.s x.2.1,.i .i64 x.2.2]
theorem kI {o:Option Slt}:(slC o).length=3:=by cases o<;>rfl
theorem D2S {o:Option Slt}:N3 (slC o)=true:=by cases o<;>rfl
def Z2 (b nm:List UInt8):Nat->Nat->Option Slt
 | 0,_=>none
 | e+1,k=>match Q9 b k with
  | some x=>if x.1=nm then some (k,x) else Z2 b nm e (k+1)
  | none=>Z2 b nm e (k+1)
theorem A3r {b nm:List UInt8} {e k:Nat} (hx:Q9 b k=none):Z2 b nm (e+1) k=Z2 b nm e (k+1):=by rw [Z2,hx]
theorem A54 {b nm:List UInt8} {e k:Nat} {n:Int} (hx:Q9 b k=some (nm,n)):Z2 b nm (e+1) k=some (k,(nm,n)):=by rw [Z2,hx];simp
theorem A3q {b nm s:List UInt8} {e k:Nat} {n:Int} (hx:Q9 b k=some (s,n)) (U1:s≠nm):Z2 b nm (e+1) k=Z2 b nm e (k+1):=by rw [Z2,hx];simp [U1]
def V4 (b nm:List UInt8):Option Slt:=Z2 b nm 7 0
theorem D7i {k n:Int} {s nm:List UInt8} {r1 r2 r3:Nat} {h:A6} (h1:rd h r1=rT [.s nm]) (h3:rd h r3=rT [.b false]) (U1:s≠nm) :
  fY [.a [.i .i64 k,.s s,.i .i64 n],pV r1 0,pV r2 0,pV r3 0] h=some (bV true,h++[rT [.i .i64 k,.s s,.i .i64 n]]):=by
 refine A0g (n:=0) ?_;have l1:B4 (h++[rT [.i .i64 k,.s s,.i .i64 n]]) (pV r1 0)=some (.c (.s nm)):=B5 (cs:=[.s nm]) (B7 h1) rfl rfl;have l3:B4 (h++[rT [.i .i64 k,.s s,.i .i64 n]]) (pV r3 0)=some (bV false):=B5 (cs:=[.b false]) (B7 h3) rfl rfl;rw [zT];simp only [esc,esh,Nat.reduceAdd,Nat.reduceMul,Nat.reduceLT,l1,U1,xK,l3]<;>rfl
theorem D5C {k n:Int} {nm:List UInt8} {c2:List Cell} {r1 r2 r3:Nat} {h:A6} (h1:rd h r1=rT [.s nm]) (h2:rd h r2=rT c2) (hl:c2.length=3) (h3:rd h r3=rT [.b false]) (h23:r2≠r3) :
  fY [.a [.i .i64 k,.s nm,.i .i64 n],pV r1 0,pV r2 0,pV r3 0] h=some (bV false,((h++[rT [.i .i64 k,.s nm,.i .i64 n]]).set r2 (rT [.i .i64 k,.s nm,.i .i64 n])).set r3 (rT [.b true])):=by
 refine A0g (n:=0) ?_;have l1:B4 (h++[rT [.i .i64 k,.s nm,.i .i64 n]]) (pV r1 0)=some (.c (.s nm)):=B5 (cs:=[.s nm]) (B7 h1) rfl rfl;have s2:=storeAll (h:=h++[rT [.i .i64 k,.s nm,.i .i64 n]]) (id:=r2) (n:=3) (xs:=[.i .i64 k,.s nm,.i .i64 n]) (B7 h2) hl rfl;have h3':rd ((h++[rT [.i .i64 k,.s nm,.i .i64 n]]).set r2 (rT [.i .i64 k,.s nm,.i .i64 n])) r3=rT [.b false]:=by rw [A7 h23];exact B7 h3
 have s3:=E9 (x:=.b true) (off:=0) h3' (by simp);have l4:B4 (((h++[rT [.i .i64 k,.s nm,.i .i64 n]]).set r2 (rT [.i .i64 k,.s nm,.i .i64 n])).set r3 (rT [.b true])) (pV r3 0)=some (bV true):=B5 (cs:=[.b true]) (B6 (by simpa using C4 h3')) rfl rfl;rw [zT];have s3:F9 ((h++[rT [.i .i64 k,.s nm,.i .i64 n]]).set r2 (rT [.i .i64 k,.s nm,.i .i64 n])) (pV r3 0) (bV true)=some (((h++[rT [.i .i64 k,.s nm,.i .i64 n]]).set r2 (rT [.i .i64 k,.s nm,.i .i64 n])).set r3 (rT [.b true])):=s3;simp only [esc,esh,Nat.reduceAdd,Nat.reduceMul,Nat.reduceLT,l1,s2,s3,xK,l4]<;>rfl
theorem B8Z {b nm:List UInt8} {r0 r1 r2 r3 q:Nat} {B:A6} (hb:b.length=256) (hB1:rd B r1=rT [.s nm]) (yV:B.length<=r2) (hr3:B.length<=r3) (h23:r2≠r3) (h02:r0≠r2) (h03:r0≠r3):∀ (e k m:Nat) (h:A6),k+e=7->e<m->Low B.length B h ->
  rd h r2=rT (slC none)->rd h r3=rT [.b false]->rd h r0=rT (A5 b) ->
  ∃ h',pX q m (.c (.f 151 [(r1,0),(r2,0),(r3,0)])) (pV r0 0) (iV (k:Int)) h=some (.t [],h')/\Low B.length B h'/\rd h' r2=rT (slC (Z2 b nm e k))/\rd h' r3=rT [.b (Z2 b nm e k).isSome]
 | e,k,0,h,_,hm,_,_,_,_=>by omega
 | 0,k,m+1,h,hk,hm,hlow,h2,h3,h0=>by
  have e0:k=7:=by omega
  subst e0;have c0:¬ ((7:Nat):Int)<7:=by omega
  refine ⟨h,?_,hlow,h2,h3⟩;rw [mA];simp only [esc,c0]<;>rfl
 | e+1,k,m+1,h,hk,hm,hlow,h2,h3,h0=>by
  have c0:(k:Int)<7:=by omega
  have hbl:(A5 b).length=256:=by rw [A4,hb]
  have s1:=B8 (h:=h) (id:=r0) h0 hbl;have hR:=A9k (h:=h) (k:=k) hb (by omega);have w1:=C6 (show k+1<9223372036854775808 by omega);have hcv:∀ (x:Val) (h:A6),A1U qX (.c (.f 151 [(r1,0),(r2,0),(r3,0)])) [x] h=fY [x,pV r1 0,pV r2 0,pV r3 0] h:=λ_ _=>Eq.trans rfl rfl
  rw [mA];cases hx:Q9 b k with
  | none =>
   rw [hx] at hR;rw [A3r hx];obtain ⟨h',f1,f2⟩:=B8Z (q:=q) hb hB1 yV hr3 h23 h02 h03 e (k+1) m (h++[rT ([.s [],o0])]) (by omega) (by omega) (hlow.new _) (B7 h2) (B7 h3) (B7 h0);refine ⟨h',?_,f2⟩;generalize A5 b=y at *;simp only [esc,esh,Nat.reduceAdd,Nat.reduceMul,Nat.reduceLT,c0,s1,hR,U9,E4d,w1];exact f1
  | some x =>
   obtain ⟨s,n⟩:=x;rw [hx] at hR;have ef:D9 [o0,.s [],o0] [(0,1,iV (k:Int)),(1,2,.a [.s s,.i .i64 n])]=some [.i .i64 (k:Int),.s s,.i .i64 n]:=rfl;have h1':rd (h++[rT [.s s,.i .i64 n]]) r1=rT [.s nm]:=B7 (hlow.rd hB1);by_cases ce:s=nm
   ·subst ce;have hF:=D5C (k:=(k:Int)) (n:=n) h1' (B7 h2) kI (B7 h3) h23;simp only [E3U,E4l,E37] at hF;rw [A54 hx];refine ⟨((h++[rT [.s s,.i .i64 n],rT [.i .i64 (k:Int),.s s,.i .i64 n]]).set r2 (rT [.i .i64 (k:Int),.s s,.i .i64 n])).set r3 (rT [.b true]),?_,((hlow.new [rT [.s s,.i .i64 n],rT [.i .i64 (k:Int),.s s,.i .i64 n]]).set yV _).set hr3 _,?_,?_⟩
    ·generalize A5 b=y at *;simp only [esc,esh,Nat.reduceAdd,Nat.reduceMul,Nat.reduceLT,c0,s1,hR,U9,E33,ef,hcv,hF]<;>rfl
    ·rw [A7 (Ne.symm h23)];exact B6 (C4 (B7 h2))
    ·exact B6 (by rw [E4o];exact C4 (B7 h3))
   ·have hF:=D7i (k:=(k:Int)) (n:=n) (r2:=r2) h1' (B7 h3) ce;simp only [E3U,E4l,E37] at hF;rw [A3q hx ce];obtain ⟨h',f1,f2⟩:=B8Z (q:=q) hb hB1 yV hr3 h23 h02 h03 e (k+1) m (h++[rT [.s s,.i .i64 n],rT [.i .i64 (k:Int),.s s,.i .i64 n]]) (by omega) (by omega) (hlow.new _) (B7 h2) (B7 h3) (B7 h0);refine ⟨h',?_,f2⟩;generalize A5 b=y at *;simp only [esc,esh,Nat.reduceAdd,Nat.reduceMul,Nat.reduceLT,c0,s1,hR,U9,E33,ef,hcv,hF,w1];exact f1
theorem A9j {b nm:List UInt8} {h:A6} (hb:b.length=256):A2J [.a (A5 b),.c (.s nm)] h=some (.t [.a (slC (V4 b nm)),.c (.b (V4 b nm).isSome)],h):=by
 have key:∀ g,∃ g',A2m 0 [.a (A5 b),.c (.s nm)] g=some (.t [.a (slC (V4 b nm)),.c (.b (V4 b nm).isSome)],g'):=by
  intro g;have hbl:(A5 b).length=256:=by rw [A4,hb]
  have emk:B3V 151 [pV (g.length+1) 0,pV (g.length+3) 0,pV (g.length+4) 0]=some (.c (.f 151 [(g.length+1,0),(g.length+3,0),(g.length+4,0)])):=rfl;obtain ⟨h',f1,f2,f3,f4⟩:=B8Z (b:=b) (nm:=nm) (r0:=g.length+5) (r1:=g.length+1) (r2:=g.length+3) (r3:=g.length+4) (q:=8) (B:=g++[rT (A5 b),rT [.s nm],rT (slC none)]) hb (by simp) (by simp) (by simp) (by omega) (by omega) (by omega) 7 0 8 (g++[rT (A5 b),rT [.s nm],rT (slC none),rT (slC none),rT [.b false],rT (A5 b)]) (by omega) (by omega)
   (by have:=(Low.refl (h:=g++[rT (A5 b),rT [.s nm],rT (slC none)]) (E3T _)).new [rT (slC none),rT [.b false],rT (A5 b)];simpa using this) (by simp) (by simp) (by simp)
  have hS:gR [.a (A5 b),.c (.f 151 [(g.length+1,0),(g.length+3,0),(g.length+4,0)])] (g++[rT (A5 b),rT [.s nm],rT (slC none),rT (slC none),rT [.b false]])=some (.t [],h'):=by
   refine A2K (n:=8) ?_;rw [A2n];simp only [esc,esh,Nat.reduceAdd,Nat.reduceMul,Nat.reduceLT];exact f1
  have hr:rd h' (g.length+2)=rT (slC none):=by rw [f2.2.2 _ (by simp)];simp
  change rd h' (g.length+3)=rT (slC (V4 b nm)) at f3;change rd h' (g.length+4)=rT [.b (V4 b nm).isSome] at f4;have t1:=B8 (n:=3) f3 kI;have t2:B4 h' (pV (g.length+4) 0)=some (bV (V4 b nm).isSome):=B5 (cs:=[.b (V4 b nm).isSome]) f4 rfl rfl;have t3:=storeAll (n:=3) (xs:=slC (V4 b nm)) hr kI kI;have f4':rd (h'.set (g.length+2) (rT (slC (V4 b nm)))) (g.length+4)=rT [.b (V4 b nm).isSome]:=by rw [A7 (by omega)];exact f4
  have t4:B4 (h'.set (g.length+2) (rT (slC (V4 b nm)))) (pV (g.length+4) 0)=some (bV (V4 b nm).isSome):=B5 (cs:=[.b (V4 b nm).isSome]) f4' rfl rfl;have t5:=B8 (n:=3) (B6 (x:=rT (slC (V4 b nm))) (C4 hr)) kI;have z0:[o0,.s [],o0]=slC none:=rfl;rw [B7e,z0];generalize slC (V4 b nm)=Y at *;generalize slC none=Z at *;generalize (V4 b nm).isSome=S at *;generalize A5 b=y at *;exact ⟨_,by simp only [esc,esh,Nat.reduceAdd,Nat.reduceMul,Nat.reduceLT,hbl,emk,hS,t1,t2,t3,t4,t5]<;>rfl⟩
 obtain ⟨g',e⟩:=key (ro h);exact B22 e (by simp [Val.flat,D2S,Cell.flat])
def A0S (X:List Int) (nm:List UInt8):Nat:=wZ nm%B9 (X.headD 0)
def P8 (X:List Int) (nm:List UInt8):Int:=X.tail.getD (A0S X nm) 0
theorem D18 (X:List Int) (nm:List UInt8):A0S X nm<32:=by
 have h1:=N4 (X.headD 0);have h2:0<B9 (X.headD 0):=by unfold B9;exact Nat.two_pow_pos _
 have:=Nat.mod_lt (wZ nm) h2;unfold A0S;omega
abbrev Plc:=Int × Nat × Int
def qR (l:List Slt):List Cell:=(l.map λx=>slC (some x)).flatten
theorem vY {l:List Slt}:(qR l).length=l.length*3:=by
 induction l with
 | nil=>rfl
 | cons x l ih=>simp only [qR,E4R,E4L,E3S,kI,E3Z] at ih ⊢;omega
theorem D6k {l:List Slt} {x:Slt}:qR (l++[x])=qR l++slC (some x):=by simp [qR]
theorem D6j {l:List Slt}:N3 (qR l)=true:=by
 induction l with
 | nil=>rfl
 | cons x l ih =>
  have:qR (x::l)=slC (some x)++qR l:=rfl;rw [this,yR,D2S,ih];rfl
theorem D7P {l:List Slt}:noX (qR l)=true:=by
 induction l with
 | nil=>rfl
 | cons x l ih =>
  have:qR (x::l)=[.i .i64 (x.1:Int),.s x.2.1,.i .i64 x.2.2]++qR l:=rfl;rw [this];simp [noX,Cell.isX] at ih ⊢;exact ih
def L7 (b:List UInt8):Nat->Nat->List Slt
 | 0,_=>[]
 | e+1,k=>match Q9 b k with
  | some x=>(k,x)::L7 b e (k+1)
  | none=>L7 b e (k+1)
def M7 (b:List UInt8):List Slt:=L7 b 7 0
theorem uQ {b:List UInt8} {e k:Nat} (hx:Q9 b k=none):L7 b (e+1) k=L7 b e (k+1):=by rw [L7,hx]
theorem uR {b:List UInt8} {e k:Nat} {x:Ent} (hx:Q9 b k=some x):L7 b (e+1) k=(k,x)::L7 b e (k+1):=by rw [L7,hx]
theorem E0p {h:A6} {jd m sz:Nat} {ys:List Cell} (hy:rd h jd=rT ys) (hyl:ys.length=m*sz) (hsz:0<sz) (hn:m<=1073741824) :
  iY h sz (.c .ns) (sV jd 0 m sz)=some (sV h.length 0 m sz,h++[rT ys]):=by
 have h2:O4 h sz (sV jd 0 m sz)=some ys:=by
  simp only [O4,if_true,fV,hy,E3X,E39,E4b];rw [<-hyl,List.take_length,if_pos ⟨E3T _,rfl⟩]
 have e1:ys.length/sz=m:=by rw [hyl];exact Nat.mul_div_cancel _ hsz
 simp only [iY,h2,E3X];rw [e1,if_pos hn]
def Held (h:A6) (x:Cell) (l:List Slt) (b r0 r:Nat):Prop:=(l=[]/\x=.ns)\/∃ id,x=.sl id 0 l.length 3/\rd h id=rT (qR l)/\b<=id/\id≠r0/\id≠r
theorem Held.more {h:A6} {x:Cell} {l:List Slt} {b r0 r:Nat} (hd:Held h x l b r0 r) (t:A6):Held (h++t) x l b r0 r:=by
 rcases hd with hd | ⟨id,h1,h2,h3⟩
 ·exact .inl hd
 ·exact .inr ⟨id,h1,B7 h2,h3⟩
theorem D7F {k:Nat} {n:Int} {s:List UInt8} {x:Cell} {l:List Slt} {r0 r:Nat} {B h:A6} {c0:List Cell} (hlow:Low B.length B h) (hr:rd h r=rT [x]) (h0:rd h r0=rT c0) (h0r:r0≠r) (hBr:B.length<=r) (hB0:B.length<=r0) (hd:Held h x l B.length r0 r) (hl:l.length<=7) :
  ∃ x' h',mZ [.a [.i .i64 (k:Int),.s s,.i .i64 n],pV r 0] h=some (bV true,h')/\Low B.length B h'/\rd h' r=rT [x']/\rd h' r0=rT c0/\Held h' x' (l++[(k,(s,n))]) B.length r0 r:=by
 have V7:=C4 hr;have E3L:=C4 h0;have l1:B4 (h++[rT [.i .i64 (k:Int),.s s,.i .i64 n]]) (pV r 0)=some (.c x):=B5 (cs:=[x]) (B7 hr) rfl (by simp);have ef:D9 [o0,.s [],o0] [(0,3,.a [.i .i64 (k:Int),.s s,.i .i64 n])]=some [.i .i64 (k:Int),.s s,.i .i64 n]:=rfl;have hBh:=hlow.2.1;rcases hd with ⟨rfl,rfl⟩ | ⟨id,rfl,hi,hbi,hi0,hir⟩
 ·have hA:=E0p (h:=h++[rT [.i .i64 (k:Int),.s s,.i .i64 n],rT [.i .i64 (k:Int),.s s,.i .i64 n]]) (jd:=h.length+1) (m:=1) (sz:=3) (ys:=[.i .i64 (k:Int),.s s,.i .i64 n]) (by simp) rfl (by omega) (by omega);simp only [E3S,E3Z,E4h,E4b,E3U,E4l,E37,Nat.reduceAdd] at hA;have yV:rd (h++[rT [.i .i64 (k:Int),.s s,.i .i64 n],rT [.i .i64 (k:Int),.s s,.i .i64 n],rT [.i .i64 (k:Int),.s s,.i .i64 n]]) r=rT [.ns]:=B7 hr;have t1:=E9 (x:=.sl (h.length+2) 0 1 3) (off:=0) yV (by simp);refine ⟨.sl (h.length+2) 0 1 3,_,A0h (n:=0) (by rw [zU];simp only [esc,esh,Nat.reduceAdd,Nat.reduceMul,Nat.reduceLT,l1,ef,hA,t1]<;>rfl),(hlow.new _).set hBr _,?_,?_,.inr ⟨h.length+2,rfl,?_,by omega,by omega,by omega⟩⟩
  ·exact B6 (C4 yV)
  ·rw [A7 (Ne.symm h0r)];exact B7 h0
  ·rw [A7 (by omega)];simp [qR,slC]
 ·have hA:=jL (h:=h++[rT [.i .i64 (k:Int),.s s,.i .i64 n],rT [.i .i64 (k:Int),.s s,.i .i64 n]]) (id:=id) (jd:=h.length+1) (n:=l.length) (m:=1) (sz:=3) (cs:=qR l) (ys:=[.i .i64 (k:Int),.s s,.i .i64 n]) (rw:=true) (B7 hi) vY (by simp) rfl rfl (by omega) (by omega);have hli:=C4 hi;have es:(h++[rT [.i .i64 (k:Int),.s s,.i .i64 n],rT [.i .i64 (k:Int),.s s,.i .i64 n]]).length=h.length+2:=by simp
  rw [es] at hA;have yV:rd ((h++[rT [.i .i64 (k:Int),.s s,.i .i64 n],rT [.i .i64 (k:Int),.s s,.i .i64 n]]).set id none++[rT (qR l++[.i .i64 (k:Int),.s s,.i .i64 n])]) r=rT [.sl id 0 l.length 3]:=by
   refine B7 ?_;rw [A7 hir];exact B7 hr
  have t1:=E9 (x:=.sl (h.length+2) 0 (l.length+1) 3) (off:=0) yV (by simp);refine ⟨.sl (h.length+2) 0 (l.length+1) 3,_,A0h (n:=0) (by rw [zU];simp only [esc,esh,Nat.reduceAdd,Nat.reduceMul,Nat.reduceLT,l1,ef,hA,t1]<;>rfl),(((hlow.new _).set hbi _).new _).set hBr _,?_,?_,.inr ⟨h.length+2,by simp,?_,by omega,by omega,by omega⟩⟩
  ·exact B6 (C4 yV)
  ·rw [A7 (Ne.symm h0r)];refine B7 ?_;rw [A7 hi0];exact B7 h0
  ·rw [A7 (by omega),D6k];have:((h++[rT [.i .i64 (k:Int),.s s,.i .i64 n],rT [.i .i64 (k:Int),.s s,.i .i64 n]]).set id none).length=h.length+2:=by simp
   rw [<-this];exact S9
theorem B80 {b:List UInt8} {r0 r q:Nat} {B:A6} (hb:b.length=256) (h0r:r0≠r) (hBr:B.length<=r) (hB0:B.length<=r0):∀ (e k m:Nat) (h:A6) (x:Cell) (l:List Slt),k+e=7->e<m->l.length<=k->Low B.length B h ->
  rd h r=rT [x]->rd h r0=rT (A5 b)->Held h x l B.length r0 r ->
  ∃ x' h',pY q m (.c (.f 212 [(r,0)])) (pV r0 0) (iV (k:Int)) h=some (.t [],h')/\Low B.length B h'/\rd h' r=rT [x']/\Held h' x' (l++L7 b e k) B.length r0 r
 | e,k,0,h,x,l,_,hm,_,_,_,_,_=>by omega
 | 0,k,m+1,h,x,l,hk,hm,hl,hlow,hr,h0,hd=>by
  have e0:k=7:=by omega
  subst e0;have c0:¬ ((7:Nat):Int)<7:=by omega
  refine ⟨x,h,?_,hlow,hr,by rw [L7,E4f];exact hd⟩;rw [mB];simp only [esc,c0]<;>rfl
 | e+1,k,m+1,h,x,l,hk,hm,hl,hlow,hr,h0,hd=>by
  have c0:(k:Int)<7:=by omega
  have hbl:(A5 b).length=256:=by rw [A4,hb]
  have s1:=B8 (h:=h) (id:=r0) h0 hbl;have hR:=A9k (h:=h) (k:=k) hb (by omega);have w1:=C6 (show k+1<9223372036854775808 by omega);have hcv:∀ (x:Val) (h:A6),A1U qY (.c (.f 212 [(r,0)])) [x] h=mZ [x,pV r 0] h:=λ_ _=>Eq.trans rfl rfl
  rw [mB];cases hx:Q9 b k with
  | none =>
   rw [hx] at hR;rw [uQ hx];obtain ⟨x',h',f1,f2⟩:=B80 (q:=q) hb h0r hBr hB0 e (k+1) m (h++[rT ([.s [],o0])]) x l (by omega) (by omega) (by omega) (hlow.new _) (B7 hr) (B7 h0) (hd.more _);refine ⟨x',h',?_,f2⟩;generalize A5 b=y at *;simp only [esc,esh,Nat.reduceAdd,Nat.reduceMul,Nat.reduceLT,c0,s1,hR,U9,E4d,w1];exact f1
  | some en =>
   obtain ⟨s,n⟩:=en;rw [hx] at hR;rw [uR hx];have ef:D9 [o0,.s [],o0] [(0,1,iV (k:Int)),(1,2,.a [.s s,.i .i64 n])]=some [.i .i64 (k:Int),.s s,.i .i64 n]:=rfl;obtain ⟨x1,h1,g1,g2,g3,g4,g5⟩:=D7F (k:=k) (n:=n) (s:=s) (hlow.new [rT [.s s,.i .i64 n]]) (B7 hr) (B7 h0) h0r hBr hB0 (hd.more _) (by omega);obtain ⟨x',h',f1,f2,f3,f4⟩:=B80 (q:=q) hb h0r hBr hB0 e (k+1) m h1 x1 (l++[(k,(s,n))]) (by omega) (by omega) (by simp;omega) g2 g3 g4 g5;rw [E3U,List.singleton_append] at f4;refine ⟨x',h',?_,f2,f3,f4⟩;generalize A5 b=y at *;simp only [esc,esh,Nat.reduceAdd,Nat.reduceMul,Nat.reduceLT,c0,s1,hR,U9,E33,ef,hcv,g1,w1];exact f1
theorem A6P {b:List UInt8} {h:A6} (hb:b.length=256):∃ v t,uI [.a (A5 b)] h=some (v,h++t)/\Has (h++t) v 3 (M7 b).length (qR (M7 b))/\(t=[]/\v=.c .ns/\M7 b=[]\/t=[rT (qR (M7 b))]/\v=sV h.length 0 (M7 b).length 3):=by
 have key:∀ g,∃ x g',uH 8 [.a (A5 b)] g=some (.c x,g')/\Held g' x (M7 b) g.length (g.length+3) (g.length+2):=by
  intro g;have hbl:(A5 b).length=256:=by rw [A4,hb]
  have emk:B3V 212 [pV (g.length+2) 0]=some (.c (.f 212 [(g.length+2,0)])):=rfl;obtain ⟨x,h',f1,f2,f3,f4⟩:=B80 (b:=b) (r0:=g.length+3) (r:=g.length+2) (q:=8) (B:=g) hb (by omega) (by omega) (by omega) 7 0 8 (g++[rT (A5 b),rT [],rT [.ns],rT (A5 b)]) .ns [] (by omega) (by omega) (by simp)
   ((Low.refl (E3T _)).new _) (by simp) (by simp) (.inl ⟨rfl,rfl⟩)
  have hS:gT [.a (A5 b),.c (.f 212 [(g.length+2,0)])] (g++[rT (A5 b),rT [],rT [.ns]])=some (.t [],h'):=by
   refine A2M (n:=8) ?_;rw [A2o];simp only [esc,esh,Nat.reduceAdd,Nat.reduceMul,Nat.reduceLT];exact f1
  have t1:B4 h' (pV (g.length+2) 0)=some (.c x):=B5 (cs:=[x]) f3 rfl (by simp);rw [B7f];generalize A5 b=y at *;exact ⟨x,h',by simp only [esc,esh,Nat.reduceAdd,Nat.reduceMul,Nat.reduceLT,hbl,emk,hS,t1],f4⟩
 obtain ⟨x,g',e,hd⟩:=key (ro h);rcases hd with ⟨hl,rfl⟩ | ⟨id,rfl,hr,hbi,_⟩
 ·refine ⟨.c .ns,[],?_,?_,.inl ⟨rfl,rfl,hl⟩⟩
  ·rw [E4f];exact B5f e (by simp [Val.low,Cell.low,Cell.flat])
  ·rw [hl];exact .inl ⟨rfl,rfl,rfl⟩
 ·rw [E7] at hbi;refine ⟨sV h.length 0 (M7 b).length 3,[rT (qR (M7 b))],B5g e ⟨vY,id,rfl,hbi,hr⟩ D6j,Has.row (rw:=true) (by simp) vY D7P,.inr ⟨rfl,rfl⟩⟩
abbrev Tld:=Plc × List UInt8
theorem D48 {l:List Slt}:∀ {i:Nat} {x:Slt},l[i]?=some x->((qR l).drop (i*3)).take 3=slC (some x):=by
 induction l with
 | nil=>intro i x h;simp at h
 | cons y l ih =>
  intro i x h;have e:qR (y::l)=slC (some y)++qR l:=rfl;cases i with
  | zero=>simp at h;subst h;rw [e];rfl
  | succ i =>
   simp at h;rw [e,show (i+1)*3=3+i*3 by omega,<-E4S,List.drop_left' (by rw [kI])];exact ih h
theorem dC (b:List UInt8):(M7 b).length<=7:=by
 have:∀ e k,(L7 b e k).length<=e:=by
  intro e
  induction e with
  | zero=>intro k;simp [L7]
  | succ e ih =>
   intro k;have:=ih (k+1);rw [L7];split<;>simp<;>omega
 exact this 7 0
end Go.Proofs.YtbnkgnfhgbhblaaGreat
namespace Go.Proofs.YtbnkgnfhgbhblaaGreat
open Go Go.Esc
set_option maxRecDepth 100000
noncomputable section
variable (n m m2:Nat) (a0 a1 x0 x1 x3 x4 x5 x6:Val) (h:A6)
def kU:FD Tryz.prog:=⟨px 0X172112121cc315607c1c38131801321121224672e2a82f627c7f17c68b1c7c307c3602b627c06881c003a11a4b30321530230702461e17c6388001c2c142f30323023302060510130220301321121224671e2a81f62487f048360671e2a81b62387f038360672a2a81c9651e7f61e38b01e3605617c6388041282b0220133211012,[.c (.b false),.c (.b true),.c (.s [46]),.c (.s [46,46]),.c (.i .u8 0),.c (.i .u8 47)],[.idxS (.t 26) (.t 27),.idxS (.t 31) (.t 32)],[.tmp 2],[]⟩
def B43:=kU.R
def B16:AtH:=kU.lj 0 n [m] [x0,x3]
def B5R:=tT [⟨2,2,B16⟩]
def C1h:=mR B43 kU B5R n [a0] h
def A4d:=mL kU B5R 0 n [m] [x0,x3] h
def B4I:=kU.K Tryz.func246
def A5q:=kU.S
theorem A6G:SOk Tryz.prog 246 A5q:=B4I.sok
theorem B5r:E5 B43 A5q:=B4I.flat
def eJ:FD Tryz.prog:=⟨px 0X11d8211c3a1221268415607c3e1b13181cc3161a13cc31017113fc1c2f14181b83162e13cc61017113fc06887e0007a07182461e17c6388004e1d14284304215430311a070241c9617c2e19121a43042430334303060510143032313483161017113fc64f8638805153022123b91012,[.c (.i .u8 0)],[.idxS (.t 18) (.t 19)],[.tmp 2],[]⟩
def B9Y:=eJ.R
def B6h:AtH:=eJ.lj 0 n [m] [x0,x3,x4]
def B6g:AtH:=eJ.lj 1 n [m] [x0,x3,x4]
def A87:=tT [⟨2,3,B6h⟩,⟨2,3,B6g⟩]
def C26:=mR B9Y eJ A87 n [a0] h
def A6U:=mL eJ A87 0 n [m] [x0,x3,x4] h
def C2c:=mJ eJ A87 1 n [m] [x0,x3,x4] h
def B9q:=eJ.K Tryz.func229
def A8s:=eJ.S
theorem A8t:SOk Tryz.prog 229 A8s:=B9q.sok
theorem C1I:qT B9Y A8s:=B9q.out
def tW:FD Tryz.prog:=⟨px 0X11f02882128481332220170321232222461f3a2a866a2bf61a226a1af06a36116a1af286a36062bc6101ac282e11a3f4224131ac41168806886507c64dc61c1611980001e11940220170321232222461f2e2a81b65287f6281f1612819b0283601cd637c61c8051191d022013703212012,[.c (.s []),.c (.b false),.c (.i .u8 24),.c (.b true)],[.slL 1 (.t 14) (some (.v (.c (.i .i64 1)))) (some (.t 19)),.b2s (.t 20)],[.tmp 2,.tmp 3],[cal A6G,cal A8t,cal dO]⟩
def A2s:=tW.R
def B7m:=mR A2s tW (tT []) n [a0] h
def B1s:=tW.K Tryz.func223
def A2S:=tW.S
theorem B7U:SOk Tryz.prog 223 A2S:=B1s.sok
theorem B3e:E5 A2s A2S:=B1s.flat
def nS:FD Tryz.prog:=⟨px 0X12a84161e17c63884063880481641218c515607c5e281318011fc4162a17c236882c04026882c00060194132462a37c116882c04006887a002a160193851043155103307024362e2a861e12d7f62d38b42d33a2d36061e17c638800601a1f51042510335103060510151032102334111022,[.c (.b false)],[.idxS (.t 18) (.t 19),.idxS (.t 21) (.t 22),.idxS (.t 25) (.t 26),.idxS (.t 28) (.t 29)],[.tmp 4],[]⟩
def B9X:=nS.R
def B6f:AtH:=nS.lj 0 n [m] [x0,x1,x5]
def B99:=tT [⟨2,3,B6f⟩]
def C25:=mR B9X nS B99 n [a0,a1] h
def A6T:=mL nS B99 0 n [m] [x0,x1,x5] h
def B9p:=nS.K Tryz.func227
def A8r:=nS.S
theorem C3J:SOk Tryz.prog 227 A8r:=B9p.sok
theorem B7T:E5 B9X A8r:=B9p.flat
def aA:FD Tryz.prog:=⟨px 0X3983161e13cc61013113fc2c01c5f1518012f8211c022122462bc285c125d530425303368615607c2e1b131802dc011b4161c61a11983800050192461b3e2a861a201881af2c188361881f61a118819b381883018836062bc2801a4f654306203724366e2a86492bf62e20491af36491f61a14919b3849304936491f62a14919b567497f6491cb7e4937a493601657c61c85a1d11e0193d654306365430533565430521a2702461e17c61c8006041a65430626543053654305162510165430525430437015430423014303215302060513b813022123b91012,[.c (.b false),.c (.s []),.c (.b true)],[],[.tmp 2],[cal C3J]⟩
def A7O:=aA.R
def A51:AtH:=aA.lj 0 n [m] [x0,x3]
def B6i:AtH:=aA.lj 1 n [m,m2] [x0,x3,x4,x5,x6]
def D0f:AtH:=aA.lj 2 n [m,m2] [x0,x3,x4,x5,x6]
def A1O:=tT [⟨2,2,A51⟩,⟨3,5,B6i⟩,⟨3,5,D0f⟩]
def C27:=mR A7O aA A1O n [a0] h
def C2d:=mL aA A1O 0 n [m] [x0,x3] h
def A6V:=mL aA A1O 1 n [m,m2] [x0,x3,x4,x5,x6] h
def Y7:=mJ aA A1O 2 n [m,m2] [x0,x3,x4,x5,x6] h
def B9r:=aA.K Tryz.func184
def A8u:=aA.S
theorem C3K:SOk Tryz.prog 184 A8u:=B9r.sok
theorem C1J:qT A7O A8u:=B9r.out
end
end Go.Proofs.YtbnkgnfhgbhblaaGreat
namespace Go.Proofs.YtbnkgnfhgbhblaaGreat
open Go Go.Esc
theorem D0A {a b:List UInt8} {h:A6}:A8S [.c (.s a),.c (.s b)] h=some (bV (J8 a b),h) :=
 B8t (n:=0) (h2:=ro h) (by rw [C3s];simp only [esc]) rfl
theorem C85 (s t:List UInt8) (hs:s.length<9223372036854775807) (n:Nat) (h:A6):∀ d i m:Nat,i+d=s.length->d<m->i<=t.length ->
  B6f n m (.c (.s s)) (.c (.s t)) (iV i) h=some (bV (J8 (s.drop i) (t.drop i)),h)
 | d,i,0,_,hm,_=>by omega
 | 0,i,m+1,hi,hm,ht=>by
  have h1:¬ ((i:Int)<s.length):=by omega
  have h2:s.drop i=[]:=E32 (by omega);rw [A6T,h2];cases h4:t.drop i with
  | nil =>
   have:¬ (s.length:Int)<t.length:=by have:=congrArg List.length h4;simp at this;omega
   simp only [esc,h1,this,J8]
  | cons x r =>
   have:(s.length:Int)<t.length:=by have:=congrArg List.length h4;simp at this;omega
   simp only [esc,h1,this,J8]
 | d+1,i,m+1,hi,hm,ht=>by
  have h1:(i:Int)<s.length:=by omega
  have h2:i<s.length:=by omega
  rw [A6T,E3V h2];by_cases h3:i<t.length
  ·have h4:(i:Int)<t.length:=by omega
   have ih:=C85 s t hs n h d (i+1) m (by omega) (by omega) (by omega);rw [E3V h3];by_cases c:s[i]=t[i]
   ·simp only [esc,h1,h4,iW h2,iW h3,c,J8,UInt8.lt_irrefl,Bool.false_or,beq_self_eq_true,E31,C6 (show i+1<9223372036854775808 by omega)];exact ih
   ·have c':¬ (s[i].toNat:Int)=t[i].toNat:=λe=>c (UInt8.toNat_inj.1 (by omega))
    have c2:(s[i]==t[i])=false:=by simp [c]
    have c3:((s[i].toNat:Int)<t[i].toNat)=(s[i]<t[i]):=by rw [UInt8.lt_iff_toNat_lt];simp
    simp only [esc,h1,h4,iW h2,iW h3,c',c2,J8,c3,E3W,Bool.or_false]
  ·have h4:¬ (i:Int)<t.length:=by omega
   have h5:¬ (s.length:Int)<t.length:=by omega
   have h6:t.drop i=[]:=E32 (by omega);rw [h6];simp only [esc,h1,h4,h5,J8]
theorem B4p {s t:List UInt8} (hs:s.length<9223372036854775807) (h:A6):A8r [.c (.s s),.c (.s t)] h=some (bV (J8 s t),h):=by
 refine B7T (n:=s.length+1) (h2:=ro h) ?_ rfl;rw [C25];have hl:=C85 s t hs (s.length+1) (ro h) s.length 0 (s.length+1) (by omega) (by omega) (by omega);simp only [E39] at hl;exact hl
end Go.Proofs.YtbnkgnfhgbhblaaGreat
namespace Go.Proofs.YtbnkgnfhgbhblaaGreat
section
section
variable {α:Type} {lt:α -> α -> Prop}
theorem D2F (irr:∀ a,¬ lt a a) (tr:∀ a b c,lt a b->lt b c->lt a c):∀ {l m:List α},l.Pairwise lt->m.Pairwise lt->(∀ x,x∈l↔x∈m)->l=m
 | [],[],_,_,_=>rfl
 | [],y::m,_,_,h=>absurd ((h y).2 (E4c ..)) (by simp)
 | x::l,[],_,_,h=>absurd ((h x).1 (E4c ..)) (by simp)
 | x::l,y::m,hl,hm,h=>by
  rw [List.pairwise_cons] at hl hm;have e:x=y:=by
   rcases List.mem_cons.1 ((h x).1 (E4c ..)) with e | h1
   ·exact e
   ·rcases List.mem_cons.1 ((h y).2 (E4c ..)) with e | h2
    ·exact e.symm
    ·exact absurd (tr _ _ _ (hm.1 x h1) (hl.1 y h2)) (irr y)
  subst e;rw [D2F irr tr hl.2 hm.2 λz=>?_];constructor
  ·intro hz;rcases List.mem_cons.1 ((h z).1 (E4a _ hz)) with e | h1
   ·subst e;exact absurd (hl.1 z hz) (irr z)
   ·exact h1
  ·intro hz;rcases List.mem_cons.1 ((h z).2 (E4a _ hz)) with e | h1
   ·subst e;exact absurd (hm.1 z hz) (irr z)
   ·exact h1
theorem D2G (tr:∀ a b c,lt a b->lt b c->lt a c) (tot:∀ a b,lt a b\/a=b\/lt b a) {l:List α} {x:α} {p:Nat} (hl:l.Pairwise lt) (hx:x ∉ l) (h1:∀ y∈l.take p,lt y x) (h2:∀ y∈l.drop p,¬ lt y x) :
  (l.take p++x::l.drop p).Pairwise lt:=by
 have hl':=hl;rw [<-List.take_append_drop p l] at hl';rw [List.pairwise_append] at hl';obtain ⟨k1,k2,k3⟩:=hl';rw [List.pairwise_append];refine ⟨k1,?_,?_⟩
 ·rw [List.pairwise_cons];refine ⟨λy hy=>?_,k2⟩;rcases tot x y with h | h | h
  ·exact h
  ·subst h;exact absurd (List.mem_of_mem_drop hy) hx
  ·exact absurd h (h2 y hy)
 ·intro a ha b hb;rcases List.mem_cons.1 hb with e | hb
  ·subst e;exact h1 a ha
  ·exact k3 a ha b hb
theorem mem_insert {l:List α} {x y:α} {p:Nat}:y∈l.take p++x::l.drop p↔y=x\/y∈l:=by
 have e:y∈l↔y∈l.take p\/y∈l.drop p:=by rw [<-List.mem_append,List.take_append_drop]
 rw [List.mem_append,List.mem_cons,e];constructor
 ·rintro (h | h | h)
  ·exact .inr (.inl h)
  ·exact .inl h
  ·exact .inr (.inr h)
 ·rintro (h | h | h)
  ·exact .inr (.inl h)
  ·exact .inl h
  ·exact .inr (.inr h)
end
end
end Go.Proofs.YtbnkgnfhgbhblaaGreat
namespace Go.Proofs.YtbnkgnfhgbhblaaGreat
open Go Go.Esc
theorem oE:∀ a:List UInt8,J8 a a=false
 | []=>rfl
 | x::a=>by simp [J8,oE a,UInt8.lt_irrefl]
theorem jN:∀ {a b c:List UInt8},J8 a b=true->J8 b c=true->J8 a c=true
 | [],[],_,h,_=>by simp [J8] at h
 | [],_::_,[],_,h=>by simp [J8] at h
 | [],_::_,_::_,_,_=>rfl
 | _::_,[],_,h,_=>by simp [J8] at h
 | _::_,_::_,[],_,h=>by simp [J8] at h
 | x::a,y::b,z::c,h1,h2=>by
  simp only [J8,E4K,E3R,decide_eq_true_eq,beq_iff_eq] at h1 h2 ⊢;rcases h1 with h1 | ⟨rfl,h1⟩
  ·rcases h2 with h2 | ⟨rfl,h2⟩
   ·exact .inl (UInt8.lt_trans h1 h2)
   ·exact .inl h1
  ·rcases h2 with h2 | ⟨rfl,h2⟩
   ·exact .inl h2
   ·exact .inr ⟨rfl,jN h1 h2⟩
theorem B8R:∀ a b:List UInt8,J8 a b=true\/a=b\/J8 b a=true
 | [],[]=>.inr (.inl rfl)
 | [],_::_=>.inl rfl
 | _::_,[]=>.inr (.inr rfl)
 | x::a,y::b=>by
  simp only [J8,E4K,E3R,decide_eq_true_eq,beq_iff_eq,List.cons.injEq];rcases Nat.lt_trichotomy x.toNat y.toNat with h | h | h
  ·exact .inl (.inl (UInt8.lt_iff_toNat_lt.2 h))
  ·have e:=UInt8.toNat_inj.1 h;subst e;rcases B8R a b with h | h | h
   ·exact .inl (.inr ⟨rfl,h⟩)
   ·exact .inr (.inl ⟨rfl,h⟩)
   ·exact .inr (.inr (.inr ⟨rfl,h⟩))
  ·exact .inr (.inr (.inl (UInt8.lt_iff_toNat_lt.2 h)))
def plc (l:List (List UInt8)) (s:List UInt8):Nat->Nat->Nat->Nat
 | 0,lo,_=>lo
 | f+1,lo,hi=>if lo<hi then (if J8 (l.getD (lo+(hi-lo)/2) []) s then plc l s f (lo+(hi-lo)/2+1) hi else plc l s f lo (lo+(hi-lo)/2)) else lo
theorem D3P (l:List (List UInt8)) (s:List UInt8):∀ f lo hi,lo<=hi->plc l s f lo hi<=hi
 | 0,lo,hi,h=>h
 | f+1,lo,hi,h=>by
  unfold plc;split
  ·split
   ·exact D3P l s f _ hi (by omega)
   ·exact E4t (D3P l s f lo _ (by omega)) (by omega)
  ·exact h
theorem C6b {l:List (List UInt8)} {s:List UInt8} (hl:l.Pairwise λa b=>J8 a b=true):∀ f lo hi,lo<=hi->hi<=l.length->hi-lo<=f->(∀ i x,i<lo->l[i]?=some x->J8 x s=true)->(∀ i x,hi<=i->l[i]?=some x->J8 x s=false) ->
  (∀ i x,i<plc l s f lo hi->l[i]?=some x->J8 x s=true)/\(∀ i x,plc l s f lo hi<=i->l[i]?=some x->J8 x s=false)
 | 0,lo,hi,h,_,hf,h1,h2=>by
  have:hi=lo:=by omega
  subst this;exact ⟨h1,h2⟩
 | f+1,lo,hi,h,hh,hf,h1,h2=>by
  unfold plc;by_cases c:lo<hi
  ·rw [if_pos c];have hm:lo+(hi-lo)/2<hi:=by omega
   have hlo:lo<=lo+(hi-lo)/2:=by omega
   generalize lo+(hi-lo)/2=mid at *;have hg:l[mid]?=some (l.getD mid []):=by rw [E30,E3P (by omega)];rfl
   have mono:∀ (i j:Nat) (x y:List UInt8),i<j->l[i]?=some x->l[j]?=some y->J8 x y=true:=by
    intro i j x y hij hi hj;rw [List.pairwise_iff_getElem] at hl;obtain ⟨a,rfl⟩:=List.getElem?_eq_some_iff.1 hi;obtain ⟨b,rfl⟩:=List.getElem?_eq_some_iff.1 hj;exact hl i j a b hij
   cases cb:J8 (l.getD mid []) s with
   | true =>
    rw [if_pos rfl];refine C6b hl f (mid+1) hi (by omega) hh (by omega) (λi x hi hx=>?_) h2;by_cases e:i=mid
    ·subst e;rw [hg] at hx;rw [<-Option.some.inj hx];exact cb
    ·exact jN (mono i mid x _ (by omega) hx hg) cb
   | false =>
    rw [if_neg (by simp)];refine C6b hl f lo mid (by omega) (by omega) (by omega) h1 (λi x hi hx=>?_);by_cases e:i=mid
    ·subst e;rw [hg] at hx;rw [<-Option.some.inj hx];exact cb
    ·cases cx:J8 x s with
     | false=>rfl
     | true=>rw [jN (mono mid i _ x (by omega) hg hx) cx] at cb;exact cb
  ·rw [if_neg c];have:hi=lo:=by omega
   subst this;exact ⟨h1,h2⟩
def C2g (l:List (List UInt8)) (s:List UInt8) (n:Nat):Bool:=decide (l[n]?=some s)
theorem A4b (l:List (List UInt8)) (i:Nat):(encS l)[i]?=(l[i]?).map λx=>.s x:=by simp [encS]
theorem B4n {v:Val} {nv q:Nat} {l:List (List UInt8)} {s:List UInt8} {h:A6} (hv:Has h v 1 nv (encS l)) (hn:l.length=nv) (h62:nv<4611686018427387904):∀ f m lo hi:Nat,lo<=hi->hi<=nv->hi-lo<=f->f<m ->
  A3x q m v (.c (.s s)) (iV lo) (iV hi) h=some (.t [.c (.i .i64 (plc l s f lo hi:Nat)),.c (.b (C2g l s (plc l s f lo hi)))],h)
 | f,0,lo,hi,_,_,_,hm=>by omega
 | f,m+1,lo,hi,h1,h2,hf,hm=>by
  have hlen:=hv.len;have fin:lo=hi->A3x q (m+1) v (.c (.s s)) (iV lo) (iV hi) h=some (.t [.c (.i .i64 lo),.c (.b (C2g l s lo))],h):=by
   intro e;subst e;have c0:¬ (lo:Int)<lo:=by omega
   rw [A4w];unfold C2g;by_cases c1:lo<nv
   ·have c1':(lo:Int)<nv:=by omega
    obtain ⟨id,off,ev,hid,k1,k2⟩:=hv.sl (by omega);have hx:=k1 lo (.s l[lo]) (by rw [A4b,E3P (by omega)];rfl);have eb:D6 1 v (iV (lo:Int))=some (pV id (off+lo)):=by rw [ev,C5 (by omega)];simp
    have e2:l[lo]?=some l[lo]:=E3P (by omega);rw [e2];simp only [esc,hlen,c0,c1',eb,hx]
   ·have c1':¬ (lo:Int)<nv:=by omega
    have e2:l[lo]?=none:=E4q (by omega);rw [e2];simp only [esc,hlen,c0,c1',reduceCtorEq]
  cases f with
  | zero =>
   have e:lo=hi:=by omega
   exact fin e
  | succ f =>
   unfold plc;by_cases c:lo<hi
   ·rw [if_pos c];have c':(lo:Int)<hi:=by omega
    obtain ⟨id,off,ev,hid,k1,k2⟩:=hv.sl (by omega);have w1:IntKind.wrap .i64 ((hi:Int)-lo)=((hi-lo:Nat):Int):=by rw [wrap_i64 (by omega) (by omega)];omega
    have w2:=A6g (a:=((hi-lo:Nat):Int)) (b:=2) (by omega) (by omega) (by omega);have w3:((hi-lo:Nat):Int)/2=(((hi-lo)/2:Nat):Int):=by omega
    rw [w3] at w2;have w4:IntKind.wrap .i64 ((lo:Int)+(((hi-lo)/2:Nat):Int))=((lo+(hi-lo)/2:Nat):Int):=A04 (by omega);have hm1:lo+(hi-lo)/2<hi:=by omega
    have hm2:lo<=lo+(hi-lo)/2:=by omega
    generalize (hi-lo)/2=d at *;generalize lo+d=mid at *;have hx:=k1 mid (.s l[mid]) (by rw [A4b,E3P (by omega)];rfl);have eb:D6 1 v (iV (mid:Int))=some (pV id (off+mid)):=by rw [ev,C5 (by omega)];simp
    have eg:l.getD mid []=l[mid]:=by rw [E30,E3P (by omega)];rfl
    rw [eg];have hL:=λh=>D0A (a:=l[mid]) (b:=s) (h:=h)
    rw [A4w];cases cb:J8 l[mid] s with
    | true =>
     rw [cb] at hL;have ih:=B4n (q:=q) (s:=s) hv hn h62 f m (mid+1) hi (by omega) h2 (by omega) (by omega);rw [if_pos rfl];simp only [esc,hlen,c',w1,w2,w4,eb,hx,hL,C6 (show mid+1<9223372036854775808 by omega)];exact ih
    | false =>
     rw [cb] at hL;have ih:=B4n (q:=q) (s:=s) hv hn h62 f m lo mid hm2 (by omega) (by omega) (by omega);rw [if_neg (by simp)];simp only [esc,hlen,c',w1,w2,w4,eb,hx,hL];exact ih
   ·rw [if_neg c];exact fin (by omega)
theorem C7P {v:Val} {nv:Nat} {l:List (List UInt8)} {s:List UInt8} {h:A6} (hv:Has h v 1 nv (encS l)) (h62:nv<4611686018427387904) :
  yH [v,.c (.s s)] h=some (.t [.c (.i .i64 (plc l s nv 0 nv:Nat)),.c (.b (C2g l s (plc l s nv 0 nv)))],h):=by
 have hn:l.length=nv:=by simpa [L6] using hv.length
 have key:∀ N,nv<N->∀ g,Has g v 1 nv (encS l)->∃ g',A5a N [v,.c (.s s)] g=some (.t [.c (.i .i64 (plc l s nv 0 nv:Nat)),.c (.b (C2g l s (plc l s nv 0 nv)))],g'):=by
  intro N hN g hv;have e:=B4n (q:=N) (s:=s) hv hn h62 nv N 0 nv (by omega) (by omega) (by omega) hN;rw [C1v];exact ⟨_,by simp only [esc,hv.len];exact e⟩
 obtain ⟨g',e⟩:=key (nv+1) (by omega) (ro h) hv.ro;exact B5F e rfl
theorem D2T {id n a:Nat} (ha:a<=n):D1u 1 (sV id 0 n 1) (some (iV (a:Int))) none=some (sV id a (n-a) 1):=by
 simp only [D1u,bound];rw [if_pos (by omega)];simp only [E3X,E38];rw [if_pos ⟨ha,E3T _,trivial⟩];simp
theorem D60 {H:A6} {id k p:Nat} {out:List (List UInt8)} (hr:rd H id=rT (encS (out++[[]]))) (hk:out.length=k) (hp:p<=k) :
  ∃ c,C4w H 1 (sV id (p+1) (k-p) 1) (sV id p (k+1-p) 1)=some (c,H.set id (rT (encS ((out++[[]]).take (p+1)++out.drop p)))):=by
 have hl:(encS (out++[[]])).length=k+1:=by rw [L6];simp [hk]
 have h1:((encS (out++[[]])).drop p).take (k+1-p)=(encS (out++[[]])).drop p:=E3Y (by rw [List.length_drop];omega);have h2:O4 H 1 (sV id p (k+1-p) 1)=some ((encS (out++[[]])).drop p):=by
  simp only [O4,if_true,fV,hr,E3X,Nat.mul_one,h1];rw [if_pos ⟨by omega,by simp⟩]
 have h3:((encS (out++[[]])).drop p).length=k+1-p:=by rw [List.length_drop];omega
 have h4:E4W (k+1-p) (k-p)=k-p:=Nat.min_eq_right (by omega);have h5:lay (encS (out++[[]])) (p+1) (((encS (out++[[]])).drop p).take (k-p))=encS ((out++[[]]).take (p+1)++out.drop p):=by
  unfold lay;have e1:((encS (out++[[]])).drop p).take (k-p)=encS (out.drop p):=by
   unfold encS;rw [E4J,List.drop_append_of_le_length (by simp;omega),List.take_append_of_le_length (by simp;omega),E3Y (by simp;omega),List.map_drop]
  have e2:(encS (out++[[]])).drop (p+1+(encS (out.drop p)).length)=[]:=E32 (by rw [hl,L6,List.length_drop];omega);rw [e1,e2];simp only [E4f,encS,E4J,List.map_take,List.map_drop]
 refine ⟨iV ((k-p:Nat):Int),?_⟩;simp only [C4w,h2,E3X,hr,h3,Nat.div_one,h4,Nat.mul_one,h5];rw [if_pos ⟨trivial,by omega,trivial⟩]
abbrev U7:=List (List UInt8)
def atS (o:U7) (s:List UInt8):Nat:=plc o s o.length 0 o.length
def A4q (o:U7) (s:List UInt8):U7:=bif C2g o s (atS o s) then o else o.take (atS o s)++s::o.drop (atS o s)
def fC (l:U7):U7:=l.foldl A4q []
theorem D6O (o:U7) (s:List UInt8):atS o s<=o.length:=D3P o s _ _ _ (Nat.zero_le _)
theorem C0U (o:U7) (s:List UInt8):(A4q o s).length<=o.length+1:=by
 have:=D6O o s;unfold A4q;cases C2g o s (atS o s)<;>simp<;>omega
theorem D0i (l:U7):∀ o:U7,(l.foldl A4q o).length<=o.length+l.length:=by
 induction l with
 | nil=>intro o;simp
 | cons x l ih =>
  intro o;have h1:=ih (A4q o x);have h2:=C0U o x;simp only [List.foldl_cons,E3Z] at h1 ⊢;omega
theorem A6n (l:U7):(fC l).length<=l.length:=by
 have:=D0i l [];simpa [fC] using this
abbrev Up (l:U7):Prop:=l.Pairwise λa b=>J8 a b=true
theorem D1v {o:U7} {s:List UInt8} (ho:Up o):(∀ i x,i<atS o s->o[i]?=some x->J8 x s=true)/\(∀ i x,atS o s<=i->o[i]?=some x->J8 x s=false) :=
 C6b ho o.length 0 o.length (Nat.zero_le _) (E3T _) (by omega) (λi x hi=>by omega) (λi x hi hx=>by
  have:=(List.getElem?_eq_some_iff.1 hx).1;omega)
theorem D2e {o:U7} {s:List UInt8} (ho:Up o):C2g o s (atS o s)=true↔s∈o:=by
 unfold C2g;rw [decide_eq_true_eq];constructor
 ·intro h;exact E4e h
 ·intro h;obtain ⟨i,hi⟩:=List.mem_iff_getElem?.1 h;obtain ⟨h1,h2⟩:=D1v (s:=s) ho;have hge:atS o s<=i:=by
   false_or_by_contra
   have:=h1 i s (by omega) hi;rw [oE] at this;cases this
  by_cases e:atS o s=i
  ·rw [e];exact hi
  ·have R6:=(List.getElem?_eq_some_iff.1 hi).1;have hg:o[atS o s]?=some o[atS o s]:=E3P (by omega);have k1:=h2 _ _ (E3T _) hg;have k2:J8 o[atS o s] s=true:=by
    obtain ⟨a,ha⟩:=List.getElem?_eq_some_iff.1 hi;have:=List.pairwise_iff_getElem.1 ho (atS o s) i (by omega) a (by omega);rw [ha] at this;exact this
   rw [k1] at k2;cases k2
theorem D9b {o:U7} {s:List UInt8} (ho:Up o):Up (A4q o s)/\∀ x,x∈A4q o s↔x=s\/x∈o:=by
 unfold A4q;cases c:C2g o s (atS o s) with
 | true =>
  have hm:=(D2e ho).1 c;rw [cond_true];exact ⟨ho,λx=>⟨λh=>.inr h,λh=>by rcases h with h | h;subst h;exact hm;exact h⟩⟩
 | false =>
  have hm:s ∉ o:=λh=>by rw [(D2e ho).2 h] at c;cases c
  obtain ⟨h1,h2⟩:=D1v (s:=s) ho;rw [cond_false];refine ⟨D2G (lt:=λa b=>J8 a b=true) (λa b c=>jN) (λa b=>B8R a b) ho hm (λy hy=>?_) (λy hy=>?_),λx=>mem_insert⟩
  ·obtain ⟨i,hi⟩:=List.mem_iff_getElem?.1 hy;have hl:=(List.getElem?_eq_some_iff.1 hi).1;rw [E4k] at hl;rw [E4n (by omega)] at hi;exact h1 i y (by omega) hi
  ·obtain ⟨i,hi⟩:=List.mem_iff_getElem?.1 hy;rw [E4G] at hi;have:=h2 _ y (by omega) hi;rw [this];simp
theorem D14 (l:U7):∀ o:U7,Up o->Up (l.foldl A4q o)/\∀ x,x∈l.foldl A4q o↔x∈o\/x∈l:=by
 induction l with
 | nil=>intro o ho;exact ⟨ho,λx=>by simp⟩
 | cons y l ih =>
  intro o ho;obtain ⟨h1,h2⟩:=D9b (s:=y) ho;obtain ⟨h3,h4⟩:=ih _ h1;refine ⟨h3,λx=>?_⟩;rw [List.foldl_cons,h4,h2,List.mem_cons];constructor
  ·rintro ((h | h) | h)
   ·exact .inr (.inl h)
   ·exact .inl h
   ·exact .inr (.inr h)
  ·rintro (h | h | h)
   ·exact .inl (.inr h)
   ·exact .inl (.inl h)
   ·exact .inr h
theorem D8v (l:U7):Up (fC l):=(D14 l [] List.Pairwise.nil).1
theorem B00 (l:U7) (x:List UInt8):x∈fC l↔x∈l:=by
 have:=(D14 l [] List.Pairwise.nil).2 x;simpa [fC] using this
theorem E1z {l m:U7} (hl:Up l) (hm:Up m) (h:∀ x,x∈l↔x∈m):l=m :=
 D2F (lt:=λa b=>J8 a b=true) (λa=>by rw [oE];simp) (λa b c=>jN) hl hm h
theorem B9f {v:Val} {nv q:Nat} {l:U7} {g:A6} (hv:Has g v 1 nv (encS l)) (hn:l.length=nv) (h62:nv<1073741824):∀ (e i m:Nat) (o:U7) (h:A6) (id:Nat),i+e=nv->e<m->o.length<=i->Low g.length g h->g.length<=id->rd h id=rT (encS o) ->
  ∃ v2 h2,B6J q m (sV id 0 o.length 1) v (iV nv) (iV i) h=some (v2,h2)/\Out g.length h2 v2 1 ((l.drop i).foldl A4q o).length (encS ((l.drop i).foldl A4q o))
 | e,i,0,o,h,id,_,hm,_,_,_,_=>by omega
 | 0,i,m+1,o,h,id,hi,hm,hol,hlow,hid,hr=>by
  have e0:i=nv:=by omega
  subst e0;have c0:¬ (i:Int)<i:=by omega
  rw [A7f,E32 (by omega),List.foldl_nil];exact ⟨_,_,by simp only [esc,c0]<;>rfl,by rw [L6];omega,_,rfl,hid,hr⟩
 | e+1,i,m+1,o,h,id,hi,hm,hol,hlow,hid,hr=>by
  have c0:(i:Int)<nv:=by omega
  obtain ⟨jd,off,ev,hjd,k1,k2⟩:=(hv.since hlow).sl (by omega);have hx:=k1 i (.s l[i]) (by rw [A4b,E3P (by omega)];rfl);have eb:D6 1 v (iV (i:Int))=some (pV jd (off+i)):=by rw [ev,C5 (by omega)];simp
  have hP:=C7P (s:=l[i]) (Has.row (sz:=1) (n:=o.length) hr (by rw [L6];omega) (B6K o)) (by omega);rw [E3V (by omega:i<l.length),List.foldl_cons];change yH _ h=some (.t [.c (.i .i64 (atS o l[i]:Nat)),.c (.b (C2g o l[i] (atS o l[i])))],h) at hP;have hat:=D6O o l[i];rw [A7f];generalize hs:l[i]=s at *;cases c:C2g o s (atS o s) with
  | true =>
   have ei:A4q o s=o:=by unfold A4q;rw [c,cond_true]
   rw [c] at hP;obtain ⟨v2,h2,f1,f2⟩:=B9f (q:=q) hv hn h62 e (i+1) m o h id (by omega) (by omega) (by omega) hlow hid hr;rw [ei];refine ⟨v2,h2,?_,f2⟩;simp only [esc,c0,eb,hx,hP,A7e,C6 (show i+1<9223372036854775808 by omega)];exact f1
  | false =>
   have ei:A4q o s=o.take (atS o s)++s::o.drop (atS o s):=by unfold A4q;rw [c,cond_false]
   rw [c] at hP;have il:=C0U o s;generalize hp:atS o s=p at *;obtain ⟨h1,a1,a2,a3,a4,a5⟩:=push (ys:=[.s []]) (sz:=1) (n:=o.length) hlow hr (by rw [L6];omega) hid rfl (by omega) (by omega);have he:encS o++[.s []]=encS (o++[[]]):=by simp [encS]
   rw [he] at a2;have ef:D9 [Cell.s []] [(0,1,.c (.s []))]=some [.s []]:=rfl;have w1:IntKind.wrap .i64 ((p:Int)+1)=((p+1:Nat):Int):=C6 (by omega);have t1:=D2T (id:=h.length+1) (n:=o.length+1) (a:=p+1) (by omega);have t2:=D2T (id:=h.length+1) (n:=o.length+1) (a:=p) (by omega);rw [show o.length+1-(p+1)=o.length-p by omega] at t1;obtain ⟨cc,t3⟩:=D60 (H:=h1) (id:=h.length+1) (k:=o.length) (p:=p) a2 rfl hat;have t4:D6 1 (sV (h.length+1) 0 (o.length+1) 1) (iV (p:Int))=some (pV (h.length+1) p):=by rw [C5 (by omega)];simp
   have V7:=C4 a2;have t5:rd (h1.set (h.length+1) (rT (encS ((o++[[]]).take (p+1)++o.drop p)))) (h.length+1)=rT (encS ((o++[[]]).take (p+1)++o.drop p)):=B6 V7;have t6:=E9 (x:=.s s) (off:=p) t5 (by rw [L6,E3S,E4k,E3S];simp;omega);have t7:(encS ((o++[[]]).take (p+1)++o.drop p)).set p (.s s)=encS (A4q o s):=by
    rw [ei];have e1:(o++[[]]).take (p+1)=o.take p++[(o++[[]])[p]'(by simp;omega)]:=by
     rw [E36 (by simp;omega),List.take_append_of_le_length hat]
    rw [e1];unfold encS;rw [<-List.map_set]
    congr 1
    rw [E3U,E4p _ _ (by simp;omega),E4k,E4N hat,E4y];rfl
   rw [List.set_set,t7] at t6;obtain ⟨v2,h2,f1,f2⟩:=B9f (q:=q) hv hn h62 e (i+1) m (A4q o s) (h1.set (h.length+1) (rT (encS (A4q o s)))) (h.length+1) (by omega) (by omega) (by omega) (a3.set a4 _) a4 (B6 V7);have el:(A4q o s).length=o.length+1:=by rw [ei];simp;omega
   rw [el] at f1;refine ⟨v2,h2,?_,f2⟩;simp only [esc,c0,eb,hx,hP,ef,a1,w1,t1,t2,t3,t4,t6,A7e,C6 (show i+1<9223372036854775808 by omega)];exact f1
theorem D0B {v:Val} {nv:Nat} {l:U7} {h:A6} (hv:Has h v 1 nv (encS l)) (h62:nv<1073741824) :
  A8V [v] h=some (sV h.length 0 (fC l).length 1,h++[rT (encS (fC l))]):=by
 have hn:l.length=nv:=by simpa [L6] using hv.length
 have key:∀ N,nv<N->∀ g,Has g v 1 nv (encS l)->∃ v2 g',A73 N [v] g=some (v2,g')/\Out g.length g' v2 1 (fC l).length (encS (fC l)):=by
  intro N hN g hv;obtain ⟨v2,g',f1,f2⟩:=B9f (q:=N) hv hn h62 nv 0 N [] ((g++[rT []])++[rT []]) (g.length+1) (by omega) hN (E3T _) (((Low.refl (E3T _)).new _).new _) (by omega) (by simp [encS]);rw [E39] at f2;rw [C3u];refine ⟨v2,g',?_,f2⟩;rw [hv.len,Q4];simpa using f1
 obtain ⟨v2,g',e,ho⟩:=key (nv+1) (by omega) (ro h) hv.ro;exact C15 e (by simpa [E7] using ho) (by simp)
def T9 (l:List Ent):List Cell:=(l.map λx=>U9 (some x)).flatten
theorem A5Z {l:List Ent}:(T9 l).length=l.length*2:=by
 induction l with
 | nil=>rfl
 | cons x l ih=>simp only [T9,E4R,E4L,E3S,U9,E3Z,E4h] at ih ⊢;omega
theorem D7g {k:Nat} {x:Ent} {r:List Cell}:List.drop ((k+1)*2) (U9 (some x)++r)=List.drop (k*2) r:=by
 rw [show (k+1)*2=k*2+2 by omega];rfl
theorem B6c:∀ (l:List Ent) (k:Nat) (hk:k<l.length),((T9 l).drop (k*2)).take 2=U9 (some l[k])
 | [],k,hk=>by simp at hk
 | x::l,0,_=>rfl
 | x::l,k+1,hk=>by
  have e:T9 (x::l)=U9 (some x)++T9 l:=rfl;rw [e,D7g,List.getElem_cons_succ];exact B6c l k (by simpa using hk)
def eE (l:List Ent) (k:Nat):Ent:=l.getD k ([],0)
theorem B6b {l:List Ent} {k:Nat} (hk:k<l.length):eE l k=l[k]:=by simp [eE,List.getD,hk]
def iD (l:List Ent):Nat->List UInt8
 | 0=>hdB
 | k+1=>I6 (iD l k) (J1 k) (W7 (eE l k).1 (eE l k).2)
theorem fA {l:List Ent}:∀ k,k<=7->(iD l k).length=256
 | 0,_=>A55
 | k+1,hk=>by rw [iD,O8 (by rw [fA k (by omega),W8];unfold J1;omega)];exact fA k (by omega)
def atX (b nm:List UInt8):Nat:=match V4 b nm with
 | some x=>x.1
 | none=>0
theorem E1s {o:Option Slt}:(slC o)[0]?=some (.i .i64 ((match o with | some x=>x.1 | none=>0:Nat):Int)):=by cases o<;>rfl
def C9c (l:List Ent) (k:Nat):Bool:=decide (atX (iD l l.length) (eE l k).1=k)
def B6S (l:List Ent):Bool:=(E4s 0 l.length).all (C9c l)
def C7O (l:List Ent):Bool:=l.all λx=>A09 x.1 x.2
theorem D7N {v:Val} {nv q:Nat} {l:List Ent} {B:A6} {g:Nat} (hv:Has B v 2 nv (T9 l)) (hn:l.length=nv) (h7:nv<=7) (hg:rd B g=rT (A5 (zeros 256))):∀ (e k m:Nat) (h:A6),k+e=nv->e<m->Low B.length B h->rd h B.length=rT (A5 (iD l nv)) ->
  ∃ h',B10 q m (.c (.p g 0)) (.c (.p B.length 0)) v (.c (.i .i64 (nv:Int))) (.c (.i .i64 (k:Int))) h=some (.t [.a (A5 (bif (E4s k e).all (C9c l) then iD l nv else zeros 256)),.c (.i .i64 (bif (E4s k e).all (C9c l) then 0 else 5))],h')
 | e,k,0,h,_,hm,_,_=>by omega
 | 0,k,m+1,h,hk,hm,hlow,hr=>by
  have e0:k=nv:=by omega
  subst e0;have c0:¬ (k:Int)<k:=by omega
  have hL:(A5 (iD l k)).length=256:=by rw [A4];exact fA k h7
  have hz:(A5 (zeros 256)).length=256:=by rw [A4];exact zeros_length
  have hrg:=hlow.rd hg;have s1:=B8 hr hL;have s2:=storeAll (xs:=A5 (iD l k)) hrg hz hL;have s3:=B8 (h:=h.set g (rT (A5 (iD l k)))) (id:=g) (B6 (C4 hrg)) hL;rw [A32,List.range'_zero,List.all_nil,cond_true,cond_true];generalize A5 (iD l k)=y at *;exact ⟨_,by simp only [esc,c0,s1,s2,s3]<;>rfl⟩
 | e+1,k,m+1,h,hk,hm,hlow,hr=>by
  have c0:(k:Int)<nv:=by omega
  have hL:(A5 (iD l nv)).length=256:=by rw [A4];exact fA nv h7
  have hvB:Has h v 2 nv (T9 l):=by
   refine hv.low hlow λid off m he=>?_
   rcases hv with ⟨rfl,_⟩ | ⟨fX,off',r',rfl,hrd,_⟩
   ·cases he
   ·cases he;exact C4 hrd
  obtain ⟨id,off,ev,hid,k1,k2⟩:=hvB.sl (by omega);have eb:D6 2 v (.c (.i .i64 (k:Int)))=some (.c (.p id (off+k*2))):=by rw [ev,C5 (by omega)]
  have hld:=k2 (k*2) 2 (by rw [A5Z];omega);rw [B6c l k (by omega),<-B6b (by omega)] at hld;have w1:=C6 (show k+1<9223372036854775808 by omega);have hF:=λh=>A9j (b:=iD l nv) (nm:=(eE l k).1) (h:=h) (fA nv h7)
  have s1:=λt=>B8 (h:=h++t) (B7 hr) hL
  have hat:(slC (V4 (iD l nv) (eE l k).1))[0]?=some (.i .i64 (atX (iD l nv) (eE l k).1:Nat)):=E1s;have hSl:=kI (o:=V4 (iD l nv) (eE l k).1);rw [A32,List.range'_succ,E4x];have hon:C9c l k=decide (atX (iD l nv) (eE l k).1=k):=by unfold C9c;rw [hn]
  rw [hon];generalize slC (V4 (iD l nv) (eE l k).1)=S at *;generalize atX (iD l nv) (eE l k).1=A at *;obtain ⟨h',ih⟩:=D7N (q:=q) hv hn h7 hg e (k+1) m (h++[rT (U9 (some (eE l k))),rT S]) (by omega) (by omega) (hlow.new _) (B7 hr);simp only [U9] at *;by_cases c:A=k
  ·subst c;rw [decide_eq_true rfl,E31];refine ⟨h',?_⟩;generalize A5 (iD l nv)=y at *;simp only [esc,esh,Nat.reduceAdd,Nat.reduceMul,Nat.reduceLT,c0,eb,hld,s1,hF,hat,hSl,w1];exact ih
  ·rw [decide_eq_false c,E3W,cond_false,cond_false];have c':¬ (A:Int)=k:=by omega
   have hz:(A5 (zeros 256)).length=256:=by rw [A4];exact zeros_length
   have hrg:=λt:A6=>B7 (g:=t) (hlow.rd hg)
   have haf:D9 (E3Q 256 (Cell.i .u8 0)) []=some (E3Q 256 (Cell.i .u8 0)):=rfl;rw [I3] at haf;have s2:=λt=>storeAll (xs:=A5 (zeros 256)) (hrg t) hz hz
   have s3:=λt=>B8 (h:=(h++t).set g (rT (A5 (zeros 256)))) (id:=g) (B6 (C4 (hrg t))) hz
   rw [I3];generalize zeros 256=z at *;generalize A5 (iD l nv)=y at *;exact ⟨_,by simp only [esc,esh,Nat.reduceAdd,Nat.reduceMul,Nat.reduceLT,c0,eb,hld,s1,hF,hat,hSl,c',haf,s2,s3]<;>rfl⟩
theorem D7M {v:Val} {nv q:Nat} {l:List Ent} {B:A6} {g:Nat} (hv:Has B v 2 nv (T9 l)) (hn:l.length=nv) (h7:nv<=7) (hs:∀ x∈l,x.1.length<=60) (hg:rd B g=rT (A5 (zeros 256))) (hq:nv<q):∀ (e k m:Nat) (h:A6),k+e=nv->e<m->Low B.length B h->rd h B.length=rT (A5 (iD l k)) ->
  ∃ h',B1Z q m v (.c (.p g 0)) (.c (.p B.length 0)) v (.c (.i .i64 (nv:Int))) (.c (.i .i64 (k:Int))) h=some (.t [.a (A5 (bif C7O (l.drop k)&&B6S l then iD l nv else zeros 256)),.c (.i .i64 (bif C7O (l.drop k) then (bif B6S l then 0 else 5) else 1))],h')
 | e,k,0,h,_,hm,_,_=>by omega
 | 0,k,m+1,h,hk,hm,hlow,hr=>by
  have e0:k=nv:=by omega
  subst e0;have c0:¬ (k:Int)<k:=by omega
  have hvB:Has h v 2 k (T9 l):=by
   refine hv.low hlow λid off m he=>?_
   rcases hv with ⟨rfl,_⟩ | ⟨fX,off',r',rfl,hrd,_⟩
   ·cases he
   ·cases he;exact C4 hrd
  obtain ⟨h',e⟩:=D7N (q:=q) hv hn h7 hg k 0 q h (by omega) hq hlow hr;have em:C7O (l.drop k)=true:=by rw [E32 (by omega)];rfl
  have eo:(E4s 0 k).all (C9c l)=B6S l:=by unfold B6S;rw [hn]
  rw [eo] at e;rw [A31,em,E31,cond_true];exact ⟨h',by simp only [esc,c0,hvB.len];exact e⟩
 | e+1,k,m+1,h,hk,hm,hlow,hr=>by
  have c0:(k:Int)<nv:=by omega
  have hNl:=fA (l:=l) k (by omega);have hL:(A5 (iD l k)).length=256:=by rw [A4];exact hNl
  have hvB:Has h v 2 nv (T9 l):=by
   refine hv.low hlow λid off m he=>?_
   rcases hv with ⟨rfl,_⟩ | ⟨fX,off',r',rfl,hrd,_⟩
   ·cases he
   ·cases he;exact C4 hrd
  obtain ⟨id,off,ev,hid,k1,k2⟩:=hvB.sl (by omega);have eb:D6 2 v (.c (.i .i64 (k:Int)))=some (.c (.p id (off+k*2))):=by rw [ev,C5 (by omega)]
  have hld:=k2 (k*2) 2 (by rw [A5Z];omega);rw [B6c l k (by omega),<-B6b (by omega)] at hld;have w1:=C6 (show k+1<9223372036854775808 by omega);have hsk:(eE l k).1.length<=60:=by rw [B6b (by omega)];exact hs _ (E4u _)
  have hM:=λh=>A3h (s:=(eE l k).1) (n:=(eE l k).2) (h:=h) (by omega)
  have hW:=λh=>pZ (s:=(eE l k).1) (n:=(eE l k).2) (h:=h) (by omega)
  have hF:=λh=>nD (k:=k) (h:=h) (by omega)
  have hmd:C7O (l.drop k)=(A09 (eE l k).1 (eE l k).2&&C7O (l.drop (k+1))):=by
   rw [E3V (by omega:k<l.length),B6b (by omega)];rfl
  have hEl:(W7 (eE l k).1 (eE l k).2).length=32:=W8;have hLy:=B4l (v:=.c (.sl (h.length+1) 0 32 1)) (nv:=32) (data:=W7 (eE l k).1 (eE l k).2) (l:=iD l k) (h:=h++[rT (U9 (some (eE l k))),rT (A5 (W7 (eE l k).1 (eE l k).2))]) (Has.row (rw:=true) (by simp) (by rw [A4,W8]) (F6 _)) hNl (by rw [hEl];omega) (a:=(J1 k:Nat));have elay:A7w (iD l k) (J1 k:Nat) (W7 (eE l k).1 (eE l k).2)=iD l (k+1):=by
   unfold A7w;have:J1 k<256:=by unfold J1;omega
   rw [if_pos ⟨by omega,by omega⟩,E38,E3Y (by rw [hEl];unfold J1;omega)];rfl
  rw [elay] at hLy;have hq2:quiet (h++[rT (U9 (some (eE l k)))]) (some (.c (.sl (h.length+1) 0 32 1),h++[rT (U9 (some (eE l k))),rT (A5 (W7 (eE l k).1 (eE l k).2))]))=_:=E1k;have hrk:∀ t:A6,rd (h++t) B.length=rT (A5 (iD l k)):=λt=>B7 hr
  have s1:=λt=>B8 (h:=h++t) (hrk t) hL
  have hN1:(A5 (iD l (k+1))).length=256:=by rw [A4];exact fA (k+1) (by omega)
  have s2:=λt=>storeAll (h:=h++t) (xs:=A5 (iD l (k+1))) (hrk t) hL hN1
  obtain ⟨h',ih⟩:=D7M (q:=q) hv hn h7 hs hg hq e (k+1) m ((h++[rT (U9 (some (eE l k))),rT (A5 (W7 (eE l k).1 (eE l k).2))]).set B.length (rT (A5 (iD l (k+1))))) (by omega) (by omega) ((hlow.new _).set (E3T _) _) (B6 (C4 (hrk _)));rw [A31,hmd];generalize W7 (eE l k).1 (eE l k).2=E at *;simp only [U9] at *;cases cm:A09 (eE l k).1 (eE l k).2 with
  | true =>
   rw [cm] at hM;rw [E31];refine ⟨h',?_⟩;generalize A5 (iD l (k+1))=y1 at *;generalize A5 (iD l k)=y at *;simp only [esc,esh,Nat.reduceAdd,Nat.reduceMul,Nat.reduceLT,c0,eb,hld,hM,hF,hW,hq2,s1,hLy,s2,w1];exact ih
  | false =>
   rw [cm] at hM;rw [E3W,E3W,cond_false,cond_false];have hz:(A5 (zeros 256)).length=256:=by rw [A4];exact zeros_length
   have hrg:=λt:A6=>B7 (g:=t) (hlow.rd hg)
   have haf:D9 (E3Q 256 (Cell.i .u8 0)) []=some (E3Q 256 (Cell.i .u8 0)):=rfl;rw [I3] at haf;have s2:=λt=>storeAll (xs:=A5 (zeros 256)) (hrg t) hz hz
   have s3:=λt=>B8 (h:=(h++t).set g (rT (A5 (zeros 256)))) (id:=g) (B6 (C4 (hrg t))) hz
   rw [I3];generalize zeros 256=z at *;exact ⟨_,by simp only [esc,esh,Nat.reduceAdd,Nat.reduceMul,Nat.reduceLT,c0,eb,hld,hM,haf,s2,s3]<;>rfl⟩
def D2m (l:List Ent):Int:=if 7<l.length then 11 else if C7O l=true then (if B6S l=true then 0 else 5) else 1
def aQ (l:List Ent):List UInt8:=if D2m l=0 then iD l l.length else zeros 256
theorem oN {l:List Ent}:(aQ l).length=256:=by
 unfold aQ;split
 ·rename_i h;refine fA _ ?_
  false_or_by_contra
  unfold D2m at h;rw [if_pos (by omega)] at h;omega
 ·exact zeros_length
theorem C7s {v:Val} {nv:Nat} {l:List Ent} {h:A6} (hv:Has h v 2 nv (T9 l)) (hs:∀ x∈l,x.1.length<=60):A5d [v] h=some (.t [.a (A5 (aQ l)),.c (.i .i64 (D2m l))],h):=by
 have hn:l.length=nv:=by have:=hv.length;rw [A5Z] at this;omega
 have key:∀ g,Has g v 2 nv (T9 l)->∃ g',A4T 8 [v] g=some (.t [.a (A5 (aQ l)),.c (.i .i64 (D2m l))],g'):=by
  intro g hv;have hz:(A5 (zeros 256)).length=256:=by rw [A4];exact zeros_length
  have hd:(A5 hdB).length=256:=by rw [A4];exact A55
  have hl:=hv.len;have hH:=λh=>C4K (h:=h)
  rw [C08,I3];by_cases c:7<nv
  ·have c0:(7:Int)<nv:=by omega
   have e1:D2m l=11:=by unfold D2m;rw [if_pos (by omega)]
   have e2:aQ l=zeros 256:=by unfold aQ;rw [e1,if_neg (by omega)]
   have haf:D9 (E3Q 256 (Cell.i .u8 0)) []=some (E3Q 256 (Cell.i .u8 0)):=rfl;rw [I3] at haf;rw [e1,e2];generalize zeros 256=z at *;exact ⟨_,by simp only [esc,esh,Nat.reduceAdd,Nat.reduceMul,Nat.reduceLT,hl,c0,haf,hz]<;>rfl⟩
  ·have c0:¬ (7:Int)<nv:=by omega
   obtain ⟨h',e⟩:=D7M (q:=8) (B:=g++[rT (A5 (zeros 256))]) (g:=g.length) (hv.more _) hn (by omega) hs (by simp) (by omega) nv 0 8 (g++[rT (A5 (zeros 256)),rT (A5 (iD l 0))]) (by omega) (by omega)
    (by have:=(Low.refl (h:=g++[rT (A5 (zeros 256))]) (E3T _)).new [rT (A5 (iD l 0))];simpa using this) (by simp)
   have e1:D2m l=(bif C7O l then (bif B6S l then 0 else 5) else 1):=by
    unfold D2m;rw [if_neg (by omega)];cases C7O l<;>cases B6S l<;>simp
   have e2:aQ l=(bif C7O l&&B6S l then iD l nv else zeros 256):=by
    unfold aQ;rw [e1,<-hn];cases C7O l<;>cases B6S l<;>simp
   rw [E39,<-e1,<-e2] at e;rw [show iD l 0=hdB from rfl] at e;simp only [E3S,E3Z,E4h,E4b] at e;refine ⟨h',?_⟩;generalize aQ l=R at *;generalize hdB=H at *;generalize zeros 256=z at *;simp only [esc,esh,Nat.reduceAdd,Nat.reduceMul,Nat.reduceLT,hl,c0,hH,hz,hd];exact e
 obtain ⟨g',e⟩:=key (ro h) hv.ro;exact B5h e (by simp)
def MapN (es:V6) (f:List UInt8->Int) (l:U7):Prop:=(∀ e∈es,∃ s,e.1=.s s)/\∀ s∈l,∃ i,B0a (.s s) es=some (i,.c (.i .i64 (f s)))
theorem D4H {es:V6} {s:List UInt8} (h:∀ e∈es,∃ s,e.1=Cell.s s):A3u none (.s s) es=true:=by
 simp only [A3u,rS,E31,E4H];intro e he;obtain ⟨x,hx⟩:=h e he;rw [hx]
theorem D4N {k:Cell} {p:Part}:∀ {es:V6} {i j:Nat} {q:Part},mgo k es i=some (j,q)->(es.set (j-i) (k,p)).length=es.length/\mgo k (es.set (j-i) (k,p)) i=some (j,p)/\i<=j/\∀ k'≠k,((mgo k' (es.set (j-i) (k,p)) i)=mgo k' es i)
 | [],i,j,q,h=>by simp [mgo] at h
 | e::es,i,j,q,h=>by
  unfold mgo at h;by_cases c:e.1=k
  ·rw [if_pos c] at h;cases h;simp only [E4y,E4A];refine ⟨rfl,by simp [mgo],E3T _,λk' hk'=>?_⟩;have:¬ e.1=k':=λh=>hk' (by rw [<-h,c])
   simp [mgo,this,Ne.symm hk']
  ·rw [if_neg c] at h;obtain ⟨h1,h2,h3,h4⟩:=D4N (p:=p) h;have e1:j-i=(j-(i+1))+1:=by omega
   rw [e1,E4B];refine ⟨by simp,?_,by omega,λk' hk'=>?_⟩
   ·simp only [mgo];rw [if_neg c];exact h2
   ·simp only [mgo];rw [h4 k' hk']
theorem D2j {k k':Cell} {p:Part}:∀ {es:V6} {i:Nat},mgo k es i=none->mgo k' (es++[(k,p)]) i=if k'=k then some (i+es.length,p) else mgo k' es i
 | [],i,_=>by
  by_cases c:k'=k
  ·subst c;simp [mgo]
  ·simp [mgo,c,Ne.symm c]
 | e::es,i,h=>by
  unfold mgo at h;by_cases c:e.1=k
  ·rw [if_pos c] at h;cases h
  ·rw [if_neg c] at h;have ih:=D2j (k':=k') (p:=p) h;simp only [E4l,mgo,ih];by_cases c2:k'=k
   ·subst c2;rw [if_neg c,if_pos rfl,if_pos rfl,E3Z]
    congr 2;omega
   ·simp only [if_neg c2]
theorem zO {k k':Cell} {p:Part} {es:V6}:B0a k (A7y k p es)=some (((B0a k es).map (·.1)).getD es.length,p)/\(k'≠k->B0a k' (A7y k p es)=B0a k' es):=by
 unfold A7y B0a;cases c:mgo k es 0 with
 | none =>
  simp only [D2j c];exact ⟨by simp,λh=>by rw [if_neg h]⟩
 | some jq =>
  obtain ⟨j,q⟩:=jq;obtain ⟨_,h2,_,h4⟩:=D4N (p:=p) c;simp only [Nat.sub_zero] at h2 h4;exact ⟨by simp [h2],λh=>h4 k' h⟩
theorem B89 {k:Cell} {p:Part} {es:V6} {Q:Cell->Prop} (hk:Q k) (h:∀ e∈es,Q e.1):∀ e∈A7y k p es,Q e.1:=by
 intro e he;unfold A7y at he;split at he
 ·rcases E4z he with he | rfl
  ·exact h e he
  ·exact hk
 ·rcases List.mem_append.1 he with he | he
  ·exact h e he
  ·simp at he;subst he;exact hk
theorem MapN.nil (f:List UInt8->Int):MapN [] f []:=⟨λe he=>by simp at he,λs hs=>by simp at hs⟩
theorem MapN.put {es:V6} {f:List UInt8->Int} {l:U7} (hm:MapN es f l) (s:List UInt8):MapN (A7y (.s s) (.c (.i .i64 (f s))) es) f (l++[s]):=by
 refine ⟨B89 (Q:=λc=>∃ s,c=.s s) ⟨s,rfl⟩ hm.1,λx hx=>?_⟩;by_cases c:x=s
 ·subst c;exact ⟨_,(zO (k':=.mh)).1⟩
 ·rcases List.mem_append.1 hx with hx | hx
  ·obtain ⟨i,hi⟩:=hm.2 x hx;refine ⟨i,?_⟩;rw [(zO (k:=.s s) (k':=.s x)).2 (by simpa using c)];exact hi
  ·simp at hx;exact absurd hx c
theorem D7G {h:A6} {mid:Nat} {es:V6} {f:List UInt8->Int} {l:U7} {s:List UInt8} (hr:rd h mid=some (S3 es)) (hm:MapN es f l) (hs:s∈l):A6O h none (.c o0) false (.c (.m mid)) (.c (.s s))=some (.c (.i .i64 (f s))):=by
 obtain ⟨i,hi⟩:=hm.2 s hs;simp only [A6O,C5H,D5T,hr,E3X,zN];rw [if_pos (D4H hm.1),hi];rfl
theorem D9q {h:A6} {mid:Nat} {es:V6} {f:List UInt8->Int} {l:U7} {s:List UInt8} {x:Int} (hr:rd h mid=some (S3 es)) (hm:MapN es f l):A1R h none (.c (.m mid)) (.c (.s s)) (.c (.i .i64 x))=some (h.set mid (some (S3 (A7y (.s s) (.c (.i .i64 x)) es)))):=by
 simp only [A1R,C5H,C6e,hr,E3X,zN];rw [if_pos (D4H hm.1)]
section
theorem zR {b:List UInt8} {k:Nat} {x:Ent} (h:Q9 b k=some x):x.1.length<=24:=by
 unfold Q9 at h;cases hu:cM (nameB b k) with
 | none=>rw [hu] at h;cases h
 | some s =>
  rw [hu,E3X] at h;split at h
  ·cases h;exact (bP (A6q hu)).2
  ·cases h
theorem A6c {b:List UInt8}:∀ {e k:Nat} {x:Slt},x∈L7 b e k->Q9 b x.1=some x.2/\k<=x.1/\x.1<k+e
 | 0,k,x,h=>by simp [L7] at h
 | e+1,k,x,h=>by
  cases hr:Q9 b k with
  | none =>
   rw [uQ hr] at h;have:=A6c h;exact ⟨this.1,by omega,by omega⟩
  | some y =>
   rw [uR hr] at h;rcases List.mem_cons.1 h with rfl | h
   ·exact ⟨hr,E3T _,by dsimp only;omega⟩
   ·have:=A6c h;exact ⟨this.1,by omega,by omega⟩
theorem B0S {b:List UInt8} {x:Slt} (h:x∈M7 b):Q9 b x.1=some x.2/\x.1<7:=by
 have:=A6c h;exact ⟨this.1,by omega⟩
section
variable {D:Dev} {n k:Int} {d:List Int} {V I:List Cell} {L:List Int} {g h:A6} {rs:List Nat} {c:Nat} {s:List Tld}
end
end
theorem D1k {n:Nat} {t:List Int} {p b:Nat}:C19 n t p b=true↔toX t p≠0/\∀ k,k<n->k%2 ^ b=p%2 ^ b->toX t k=toX t p:=by
 unfold C19 A6r V0;simp only [E3R,E4D,decide_eq_false_iff_not,E4H,List.mem_filter,List.mem_range,beq_iff_eq,decide_eq_true_eq];constructor
 ·rintro ⟨h1,h2⟩;exact ⟨h1,λk hk hm=>h2 k ⟨hk,hm⟩⟩
 ·rintro ⟨h1,h2⟩;exact ⟨h1,λk hk=>h2 k hk.1 hk.2⟩
theorem uK {n:Nat} {t:List Int} {p:Nat}:∀ e b,b<=aT n t p b e/\aT n t p b e<=b+e/\(∀ c,b<=c->c<aT n t p b e->C19 n t p c=false)/\(aT n t p b e<b+e->C19 n t p (aT n t p b e)=true)
 | 0,b=>⟨E3T _,E3T _,λc h1 h2=>by unfold aT at h2;omega,λh=>by unfold aT at h;omega⟩
 | e+1,b=>by
  unfold aT;cases ca:C19 n t p b with
  | true=>exact ⟨E3T _,by rw [cond_true];omega,λc h1 h2=>by rw [cond_true] at h2;omega,λ_=>by rw [cond_true];exact ca⟩
  | false =>
   obtain ⟨h1,h2,h3,h4⟩:=uK (n:=n) (t:=t) (p:=p) e (b+1);rw [cond_false];refine ⟨by omega,by omega,λc k1 k2=>?_,λk=>h4 (by omega)⟩;by_cases e1:c=b
   ·subst e1;exact ca
   ·exact h3 c (by omega) k2
theorem C4F {d:Int} {t:List Int} {p:Nat}:bE d t p<=U8 d:=by
 have:=(uK (n:=B9 d) (t:=t) (p:=p) (U8 d) 0).2.1;unfold bE;omega
theorem D1z {d:Int} {t:List Int} {p c:Nat} (h:c<bE d t p):C19 (B9 d) t p c=false:=(uK (n:=B9 d) (t:=t) (p:=p) (U8 d) 0).2.2.1 c (Nat.zero_le _) h
theorem D5m {d:Int} {t:List Int} {p:Nat} (h:bE d t p<U8 d):C19 (B9 d) t p (bE d t p)=true:=(uK (n:=B9 d) (t:=t) (p:=p) (U8 d) 0).2.2.2 (by unfold bE at h;omega)
theorem C41 {d:Int} {t:List Int} {p k:Nat} (hp:p<B9 d) (hk:k<B9 d) (hm:k%2 ^ bE d t p=p%2 ^ bE d t p):toX t k=toX t p:=by
 by_cases c:bE d t p<U8 d
 ·exact (D1k.1 (D5m c)).2 k hk hm
 ·have e:bE d t p=U8 d:=by have:=C4F (d:=d) (t:=t) (p:=p);omega
  rw [e] at hm;unfold B9 at hp hk;rw [E4E hp,E4E hk] at hm;rw [hm]
theorem D3D {a b c x:Nat} (h:c<=x) (hm:a%2 ^ x=b%2 ^ x):a%2 ^ c=b%2 ^ c:=by
 have hd:2 ^ c ∣ 2 ^ x:=Nat.pow_dvd_pow 2 h;rw [<-Nat.mod_mod_of_dvd a hd,<-Nat.mod_mod_of_dvd b hd,hm]
theorem D4A {α:Type} {p r:α -> Bool}:∀ {l:List α},(∀ x∈l,p x=true->r x=true)->(l.filter p).length<=(l.filter r).length
 | [],_=>by simp
 | y::l,h=>by
  have h1:=D4A (l:=l) λx hx=>h x (E4a _ hx)
  have h2:=h y (E4c ..);simp only [List.filter_cons];cases hy:p y with
  | true=>rw [h2 hy];simpa using h1
  | false=>cases r y<;>simp<;>omega
theorem D4z {α:Type} {p r:α -> Bool}:∀ {l:List α},(∀ x∈l,p x=true->r x=true)->(l.filter p).length=(l.filter r).length->∀ x∈l,r x=p x
 | [],_,_,x,hx=>by cases hx
 | y::l,h,he,x,hx=>by
  have h':∀ x∈l,p x=true->r x=true:=λx hx=>h x (E4a _ hx)
  have h1:=D4A h';have h2:=h y (E4c ..);simp only [List.filter_cons] at he;have key:r y=p y/\(l.filter p).length=(l.filter r).length:=by
   cases hy:p y with
   | true =>
    rw [h2 hy];rw [hy,h2 hy] at he;exact ⟨rfl,by simpa using he⟩
   | false =>
    rw [hy] at he;cases hr:r y with
    | true=>rw [hr] at he;simp at he;omega
    | false=>rw [hr] at he;exact ⟨rfl,by simpa using he⟩
  rcases List.mem_cons.1 hx with e | hx
  ·subst e;exact key.1
  ·exact D4z h' key.2 x hx
theorem C9x {d:Int} {t:List Int} {p:Nat} (hp:p<B9 d):A2k d t p=true↔∀ k,k<B9 d->toX t k=toX t p->k%2 ^ bE d t p=p%2 ^ bE d t p:=by
 unfold A2k;rw [decide_eq_true_eq];unfold V0 qC;constructor
 ·intro he k hk hs;have:=D4z (p:=λk=>k%2 ^ bE d t p==p%2 ^ bE d t p) (r:=λk=>decide (toX t k=toX t p)) (l:=E4m (B9 d)) (λx hx h=>by
   rw [decide_eq_true_eq];exact C41 hp (List.mem_range.1 hx) (by simpa using h)) he k (List.mem_range.2 hk)
  rw [decide_eq_true hs] at this;simpa using this.symm
 ·intro h
  congr 1
  refine List.filter_congr λk hk=>?_
  have hk:=List.mem_range.1 hk;rw [Bool.eq_iff_iff,decide_eq_true_eq,beq_iff_eq];exact ⟨λhm=>C41 hp hk hm,λhs=>h k hk hs⟩
theorem B4b {t:List Int} {i:Nat}:mI t i=true↔∀ k,k<i->toX t k≠toX t i:=by
 unfold mI;simp only [E4H,List.mem_range,E4D,decide_eq_false_iff_not]
theorem D5M {d:Int} {t:List Int} {i:Nat}:A2c d t i=true↔toX t i≠0/\tE (toX t i)=true/\(mI t i=true\/A2k d t i=true):=by
 unfold A2c;simp only [E3R,E4D,decide_eq_false_iff_not,E4K]
end Go.Proofs.YtbnkgnfhgbhblaaGreat
namespace Go.Proofs.YtbnkgnfhgbhblaaGreat
open Go Go.Esc
set_option maxRecDepth 100000
noncomputable section
variable (n m m2:Nat) (a0 a1 x0 x1 x5:Val) (h:A6)
def zA:FD Tryz.prog:=⟨px 0X134114125c515607c2e1a13180174114122461a27c4061c61a11984a001c16295104215510330702461e17c61c80060419510425103351030605101510320334111022,[.c (.b false),.c (.b true)],[],[.tmp 4],[]⟩
def C8k:=zA.R
def C5c:AtH:=zA.lj 0 n [m] [x0,x1,x5]
def C8r:=tT [⟨2,3,C5c⟩]
def C9D:=mR C8k zA C8r n [a0,a1] h
def B17:=mL zA C8r 0 n [m] [x0,x1,x5] h
def C75:=zA.K Tryz.func19
def B7W:=zA.S
theorem A5r:SOk Tryz.prog 19 B7W:=C75.sok
theorem C3L:E5 C8k B7W:=C75.flat
end
noncomputable section
variable (n m m2:Nat) (a0 a1 a2 x0 x1 x2 x3 x4 x5 x6 x7 x8 x9 x10:Val) (h:A6)
def A1g:FD Tryz.prog:=⟨px 0X14821361e2a87ffffd6191b7f01b3601647c0072123211012,[.c (.b false)],[],[.tmp 2],[]⟩
def B91:=A1g.R
def C3e:=mR B91 A1g (tT []) n [a0] h
def B9y:=A1g.K Tryz.func179
def A8E:=A1g.S
theorem A8F:SOk Tryz.prog 179 A8E:=B9y.sok
theorem B75:E5 B91 A8E:=B9y.flat
def sE:FD Tryz.prog:=⟨px 0X1702dc21611a321ac2802889288917595bd532221d8515607c2c3913182c84163e13cc619211ac64c861c1a614828c144c2c02849119180130123b9232222462bc6101ac61c1a614828c144c2c3b16485414254133155413307024289617c2c2f1238541425413354130605101541324131b8410688282d1341221a84162e13cc61017113fc64f861c044c64ac2f132b121f111b10419411e3fd1841220130123b92322224672a2a82d652a7f62a1f042a4f601617c61c0464d181d1221133013b862ec3112,[.c (.b false),.c (.b true),.c (.i .u8 105),.c (.i .u8 100),.c (.i .u8 120),.c (.i .u8 33)],[.appZ 1 ([.i .u8 0]) (.t 21) (.v (.c (.i .i64 27)))],[.tmp 2,.tmp 3],[cal A8F,cal fZ,cal mN]⟩
def B2V:=sE.R
def C0M:AtH:=sE.lj 0 n [m] [x1,x4,x5]
def C4q:=tT [⟨2,3,C0M⟩]
def C6Z:=mR B2V sE C4q n [a0] h
def A9M:=mL sE C4q 0 n [m] [x1,x4,x5] h
def C2P:=sE.K Tryz.func177
def B3s:=sE.S
theorem B1R:SOk Tryz.prog 177 B3s:=C2P.sok
theorem C1X:E1D B2V B3s:=C2P.out2
def sD:FD Tryz.prog:=⟨px 0X168214e1c122124c415607c2a1813185c3119667c3e1a131815430330702461a17c0060374304243033430306051014303231350130221211012,[],[],[.tmp 2],[]⟩
def C3f:=sD.R
def C0L:AtH:=sD.lj 0 n [m] [x0,x3,x4]
def C4p:=tT [⟨2,3,C0L⟩]
def C6Y:=mR C3f sD C4p n [a0] h
def A9L:=mL sD C4p 0 n [m] [x0,x3,x4] h
def C2O:=sD.K Tryz.func178
def A5w:=sD.S
theorem mO:SOk Tryz.prog 178 A5w:=C2O.sok
theorem C1W:E5 C3f A5w:=C2O.flat
def jC:FD Tryz.prog:=⟨px 0X1731218491de28496b39332222e81815607c485b131801331218491de01f3e833222241637c61c1a614828c1284c485d15691842423518423327024289617c4859125a1842421842331842316252c81816131ac61c0284e4d4184232422301331218491de01f3e83322224672e2a867e2bf61a227e1af07e3387e36062bc3c3d1184c423242231e801dc6112a6801e3b691d83816111ac28493939776420527c515607c4e1e13181a21fa3e614828c1284c1962a301ac628907c61967c6e0005e28119181554204307024289617c3e1c121d542052542043542040605101542042420335c2491de1f42d961011f3e85296301ac0191542032301f22d922022,[.c (.b false),.c (.b true)],[],[.cellN 2 33,.tmp 3],[cal pN,cal B1R,cal dO,cal mO]⟩
def B2U:=jC.R
def C0J:AtH:=jC.lj 0 n [m] [x0,x2,x4,x5]
def C0K:AtH:=jC.lj 1 n [m] [x2,x4,x8]
def B3P:=tT [⟨2,4,C0J⟩,⟨2,3,C0K⟩]
def C6X:=mR B2U jC B3P n [a0] h
def A9J:=mL jC B3P 0 n [m] [x0,x2,x4,x5] h
def A9K:=mL jC B3P 1 n [m] [x2,x4,x8] h
def C2N:=jC.K Tryz.func114
def B3r:=jC.S
theorem C7j:SOk Tryz.prog 114 B3r:=C2N.sok
theorem C1V:E5 B2U B3r:=C2N.flat
def A1f:FD Tryz.prog:=⟨px 0X1582161c04194d3212012d211212242d657c61c0464d318122113011211212241617c61c044c351221131062ec2112,[],[],[.tmp 2],[]⟩
def A7S:=A1f.R
def C3d:=mR A7S A1f (tT []) n [a0] h
def B9x:=A1f.K Tryz.func181
def A8C:=A1f.S
theorem A8D:SOk Tryz.prog 181 A8C:=B9x.sok
theorem B74:E5 A7S A8C:=B9x.flat
def B0B:FD Tryz.prog:=⟨px 0X17c6162e27c261e187c6101ac5a04061e187c6101ac3a00018019613361121032,[.c (.b false)],[],[.tmp 6],[cal mO]⟩
def B7p:=B0B.R
def C9G:=mR B7p B0B (tT []) n [a0,a1,a2] h
def C78:=B0B.K Tryz.func222
def B76:=B0B.S
theorem C9T:SOk Tryz.prog 222 B76:=C78.sok
theorem C3T:E5 B7p B76:=C78.flat
def S4:FD Tryz.prog:=⟨px 0X130141254222b81815607c484d1318011b03ec4148035422244c7c117c18621522ec1a15607c585c13183dc191366a2a801bf68b361a1e321bf1af481bf3381bf3581bf361a21bf7f41bf361bf1f1a61481bf28f1181bf4f581bf3604c5e11c019551a1918621634702462a17c6111ac6101ac184938584f155b1a1918621721a1918621631a1918621636451011a1918621621918621531b191119186215235186214327024361e2a816418b7f3818b36061e197c6101ac184938483d1184c18621521862143186214262510118621420318c715607c4e28131801e8613c021824361e2a8161697f386936061a27c4061c1a614828c1184c5e2a11a3b762152157621411a0702462a17c6111ac6101ac5a49382a1b151f762152762143762140605101762142621337016213230141022ed32122,[.c (.b false),.c (.i .i64 (-1)),.c (.b true)],[.eqB false (.t 53) (.t 57)],[.tmp 4,.tmp 5],[cal A8D,cal mO,cal C9T]⟩
def B45:=S4.R
def B19:AtH:=S4.lj 0 n [m] [x1,x2,x6,x7]
def C7C:AtH:=S4.lj 1 n [m] [x1,x2,x6,x7]
def A3k:AtH:=S4.lj 2 n [m] [x1,x2,x6,x8]
def B2a:AtH:=S4.lj 3 n [m,m2] [x1,x2,x6,x8,x9,x10]
def pU:=tT [⟨2,4,B19⟩,⟨2,4,C7C⟩,⟨2,4,A3k⟩,⟨3,6,B2a⟩]
def C1l:=mR B45 S4 pU n [a0,a1] h
def A4g:=mL S4 pU 0 n [m] [x1,x2,x6,x7] h
def sZ:=mJ S4 pU 1 n [m] [x1,x2,x6,x7] h
def A4h:=mL S4 pU 2 n [m] [x1,x2,x6,x8] h
def A4i:=mL S4 pU 3 n [m,m2] [x1,x2,x6,x8,x9,x10] h
def B4M:=S4.K Tryz.func180
def A5v:=S4.S
theorem C1T:SOk Tryz.prog 180 A5v:=B4M.sok
theorem B5u:E5 B45 A5v:=B4M.flat
def cP:FD Tryz.prog:=⟨px 0X1218491de1c4919f3922121e8415607c283b131801a21fa3a614828c11c4c61c1a614828c144c280280181824631a2a83c29a3603818c1418f4321523bc1815607c486e131849c71765a2a862e31eb7f361eb1f1a61481eb28f141eb4f281eb361eb1f1a61481eb28f141eb4f481eb3603c7811a0193518764321732702461a17c280486b136d1876432118218764321731876432172625101187643217276432163301764321623980138c5114a6803e69693885a162e221ac61c1a614828c144c2804495b391a019643215301724633e2a8618c2bf61118c1af618c1f1a614818c28f1418c4f2818c3601627c61c1a614828c144c283d11d59432152432143154321411a0702462a17c6101ac61c044c282e153a43215243214343214060514114321423223621fa01c4c61c044c43213201218491de7e4938221224632a2a82d653a7f63a1f043a4f601617c61c041a4d182932142321334c2491de1f32d901f193e93321321f2d862ec22122,[.c (.b true),.c (.b false)],[],[.cellN 2 33],[cal mO,cal A8F,cal C1T]⟩
def B2T:=cP.R
def A12:AtH:=cP.lj 0 n [m] [x1,x2,x3,x4]
def D1W:AtH:=cP.lj 1 n [m] [x1,x2,x3,x4]
def A13:AtH:=cP.lj 2 n [m,m2] [x1,x2,x3,x4,x6,x7,x8]
def A5O:=tT [⟨2,4,A12⟩,⟨2,4,D1W⟩,⟨3,7,A13⟩]
def C6W:=mR B2T cP A5O n [a0] h
def A9I:=mL cP A5O 0 n [m] [x1,x2,x3,x4] h
def jW:=mJ cP A5O 1 n [m] [x1,x2,x3,x4] h
def jX:=mL cP A5O 2 n [m,m2] [x1,x2,x3,x4,x6,x7,x8] h
def C2M:=cP.K Tryz.func115
def B3q:=cP.S
theorem C7i:SOk Tryz.prog 115 B3q:=C2M.sok
theorem C1U:E5 B2T B3q:=C2M.flat
def W0:FD Tryz.prog:=⟨px 0X128c211c49122125c415607c3a1a131802883163a13cc61011113fc61c1a614828c144c2801c0181824364a2a864b2bf62e224b1af64b1f1a61484b28f144b4f7e4b37e4b3601637c61c1a614828c144c4a1c11e394314215431311a0702462a17c6111ac6101ac44938605194314243133431306051014313231313b81312213b862ec2112,[.c (.b false)],[],[.tmp 2],[cal A8D,cal mO,cal A5r]⟩
def zZ:=W0.R
def wU:AtH:=W0.lj 0 n [m] [x1,x3,x4]
def C2e:AtH:=W0.lj 1 n [m] [x1,x3,x4]
def A0x:=tT [⟨2,3,wU⟩,⟨2,3,C2e⟩]
def B44:=mR zZ W0 A0x n [a0] h
def A0N:=mL W0 A0x 0 n [m] [x1,x3,x4] h
def nM:=mJ W0 A0x 1 n [m] [x1,x3,x4] h
def A7D:=W0.K Tryz.func116
def A0m:=W0.S
theorem A1G:SOk Tryz.prog 116 A0m:=A7D.sok
theorem B3p:qT zZ A0m:=A7D.out
end
end Go.Proofs.YtbnkgnfhgbhblaaGreat
namespace Go.Proofs.YtbnkgnfhgbhblaaGreat
open Go Go.Esc
theorem aI {d:Int} {t:List Int} {h:A6}:A8C [.a (encI (d::t))] h=some (iV (U8 d:Nat),h):=by
 have key:∀ g,∃ g',A7S 0 [.a (encI (d::t))] g=some (iV (U8 d:Nat),g'):=by
  intro g;have l0:(encI (d::t))[0]?=some (.i .i64 d):=rfl;rw [C3d];generalize encI (d::t)=y at *;by_cases c1:d<0
  ·have e:((U8 d:Nat):Int)=0:=by unfold U8;omega
   rw [e];exact ⟨_,by simp only [esc,esh,Nat.reduceAdd,Nat.reduceMul,Nat.reduceLT,l0,c1]<;>rfl⟩
  ·by_cases c2:5<d
   ·have e:((U8 d:Nat):Int)=5:=by unfold U8;omega
    rw [e];exact ⟨_,by simp only [esc,esh,Nat.reduceAdd,Nat.reduceMul,Nat.reduceLT,l0,c1,c2]<;>rfl⟩
   ·rw [B0L (by omega) (by omega)];exact ⟨_,by simp only [esc,esh,Nat.reduceAdd,Nat.reduceMul,Nat.reduceLT,l0,c1,c2]<;>rfl⟩
 obtain ⟨g',e⟩:=key (ro h);exact B74 e rfl
theorem D2v {k q:Nat} {h:A6} (hk:k<=32):∀ e i m:Nat,i+e=k->e<m->C0L q m (iV (k:Int)) (iV ((2 ^ i:Nat):Int)) (iV (i:Int)) h=some (iV ((2 ^ k:Nat):Int),h)
 | e,i,0,_,hm=>by omega
 | 0,i,m+1,hi,hm=>by
  have e0:i=k:=by omega
  subst e0;have c0:¬ (i:Int)<i:=by omega
  rw [A9L];simp only [esc,c0]
 | e+1,i,m+1,hi,hm=>by
  have ih:=D2v (q:=q) (h:=h) hk e (i+1) m (by omega) (by omega);have c0:(i:Int)<k:=by omega
  have hp:2 ^ i<=2 ^ 32:=Nat.pow_le_pow_right (by omega) (by omega);have w1:IntKind.wrap .i64 (((2 ^ i:Nat):Int)*2)=((2 ^ (i+1):Nat):Int):=by
   rw [Nat.pow_succ];generalize 2 ^ i=y at hp ⊢;rw [wrap_i64 (by omega) (by omega)];omega
  rw [A9L];generalize ((2 ^ (i+1):Nat):Int)=y1 at *;generalize ((2 ^ i:Nat):Int)=y at *;simp only [esc,c0,w1,C6 (show i+1<9223372036854775808 by omega)];exact ih
theorem A6i {k:Nat} {h:A6} (hk:k<=32):A5w [iV (k:Int)] h=some (iV ((2 ^ k:Nat):Int),h):=by
 have e:=D2v (q:=k+1) (h:=ro h) hk k 0 (k+1) (by omega) (by omega);exact C1W (n:=k+1) (h2:=ro h) (by rw [C6Y];exact e) rfl
theorem aJ {d:Int} {h:A6}:A5w [iV (U8 d:Nat)] h=some (iV (B9 d:Nat),h):=A6i (by have:=qD d;omega)
theorem D2C {i p b:Nat} {h:A6} (hb:b<=32):B76 [iV (i:Int),iV (p:Int),iV (b:Int)] h=some (bV (i%2 ^ b==p%2 ^ b),h):=by
 have key:∀ g,∃ g',B7p 0 [iV (i:Int),iV (p:Int),iV (b:Int)] g=some (bV (i%2 ^ b==p%2 ^ b),g'):=by
  intro g;have hP:=λh=>A6i (k:=b) (h:=h) hb
  have hp0:0<2 ^ b:=Nat.pow_pos (by omega);rw [C9G];generalize 2 ^ b=s at *;have e1:N9 .rem (iV (i:Int)) (iV (s:Int))=some (iV ((i%s:Nat):Int)):=by rw [B2B (by omega) (by omega)];simp
  have e2:N9 .rem (iV (p:Int)) (iV (s:Int))=some (iV ((p%s:Nat):Int)):=by rw [B2B (by omega) (by omega)];simp
  have e3:decide (((i%s:Nat):Int)=((p%s:Nat):Int))=(i%s==p%s):=by
   rw [Bool.eq_iff_iff,decide_eq_true_eq,beq_iff_eq];omega
  generalize i%s=x at *;generalize p%s=y at *;exact ⟨_,by simp only [esc,hP,e1,e2,e3]<;>rfl⟩
 obtain ⟨g',e⟩:=key (ro h);exact C3T e rfl
end Go.Proofs.YtbnkgnfhgbhblaaGreat
