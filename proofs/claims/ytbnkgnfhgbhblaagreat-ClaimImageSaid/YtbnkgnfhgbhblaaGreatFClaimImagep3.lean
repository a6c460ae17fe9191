/- What the proof of this claim leans on, part 3. -/
import Derived.Test.YtbnkgnfhgbhblaaGreatFClaimImagep2
set_option linter.all false
open Bool renaming and_eq_true→E42,and_false→E5Y,false_and→E48,not_eq_true'→E5O,or_eq_true→E5V,true_and→E5d
open Int renaming cast_ofNat_Int→E5y,toNat_natCast→E5j
open List renaming all_cons→E5J,all_eq_true→E5S,append_assoc→E45,append_nil→E5t,cons_append→E5x,drop_drop→E5W,drop_eq_getElem_cons→E46,drop_of_length_le→E5c,drop_zero→E5k,getD_eq_getElem?_getD→E47,getElem?_cons_succ→E5N,getElem?_drop→E5R,getElem?_eq_getElem→E40,getElem?_eq_none→E5C,getElem?_take_of_lt→E5B,getElem_mem→E5F,length_append→E43,length_cons→E5a,length_nil→E5u,length_replicate→E5r,length_set→E5w,length_take→E5q,map_append→E5T,map_cons→E50,mem_cons_of_mem→E5m,mem_cons_self→E5n,mem_of_getElem?→E5s,mem_or_eq_of_mem_set→E5H,nil_append→E5g,range→E5v,range'→E5D,replicate→E41,replicate_succ→E5p,set_append_right→E5A,set_cons_succ→E5M,set_cons_zero→E5L,take_of_length_le→E5b,take_succ_eq_append_getElem→E5f,take_zero→E5X
open Nat renaming le_refl→E44,le_trans→E5E,min_eq_left→E5U,mod_eq_of_lt→E5P,sub_self→E5K,zero_add→E5l
open Option renaming bind_some→E49,getD_none→E5Q,getD_some→E5G,isSome_none→E5o,isSome_some→E5h
namespace Go.Proofs.YtbnkgnfhgbhblaaGreat
open Go Go.Esc
def D3q (h:Nat) (c:UInt8):Nat:=((h ^^^ c.toNat)*16777619)%4294967296
def B1p (h:Nat) (s:List UInt8):Nat:=s.foldl D3q h
def xT (s:List UInt8):Nat:=B1p 2166136261 s
theorem D1F {h:Nat} {c:UInt8}:D3q h c<4294967296:=Nat.mod_lt _ (by omega)
theorem D4H {s:List UInt8}:∀ {h:Nat},h<4294967296->B1p h s<4294967296:=by
 induction s with
 | nil=>intro h hh;exact hh
 | cons c s ih=>intro h _;exact ih D1F
theorem C3o {s:List UInt8}:xT s<4294967296:=D4H (by omega)
theorem D2a {a:Int}:IntKind.wrap .u32 a=a%4294967296:=by
 simp only [IntKind.wrap,IntKind.bits,IntKind.signed,E48];rfl
theorem B2Y {s:List UInt8} (hs:s.length<9223372036854775807) {q:Nat} {h:A6}:∀ (d i m H:Nat),i+d=s.length->d<m->H<4294967296 ->
  C1H q m (.c (.i .u32 H)) (.c (.s s)) (iV s.length) (iV i) h=some (.c (.i .u32 ((B1p H (s.drop i):Nat):Int)),h)
 | d,i,0,H,_,hm,_=>by omega
 | 0,i,m+1,H,hi,hm,hH=>by
  have c0:¬ (i:Int)<s.length:=by omega
  rw [B0F,E5c (by omega)];simp only [esc,c0,B1p,List.foldl_nil]
 | d+1,i,m+1,H,hi,hm,hH=>by
  have h2:i<s.length:=by omega
  have hb:=s[i].toNat_lt;have ih:=B2Y hs (q:=q) (h:=h) d (i+1) m (D3q H s[i]) (by omega) (by omega) D1F;have c0:(i:Int)<s.length:=by omega
  have e1:IntKind.wrap .u32 (s[i].toNat:Int)=s[i].toNat:=wrap_u32 (by omega) (by omega);have e2:=E08 (a:=H) (b:=s[i].toNat) hH (by omega);have e3:IntKind.wrap .u32 (((H ^^^ s[i].toNat:Nat):Int)*16777619)=((D3q H s[i]:Nat):Int):=by
   rw [D2a];unfold D3q;omega
  rw [B0F,E46 h2];simp only [esc,c0,jI h2,e1,e2,e3,C6 (show i+1<9223372036854775808 by omega)];exact ih
theorem D0c {s:List UInt8} (hs:s.length<9223372036854775807) {h:A6}:C47 [.c (.s s)] h=some (.c (.i .u32 ((xT s:Nat):Int)),h):=by
 have hm:∀ h,B4h [.c (.i .u32 2166136261),.c (.s s)] h=some (.c (.i .u32 ((xT s:Nat):Int)),h):=λh=>by
  refine C2X (n:=s.length+1) (h2:=ro h) ?_ rfl;rw [C72];have:=B2Y hs (q:=s.length+1) (h:=ro h) s.length 0 (s.length+1) 2166136261 (by omega) (by omega) (by omega);simp only [esc];exact this
 refine C8m (n:=0) (h2:=ro h) ?_ rfl;rw [D2f];simp only [esc,hm]
theorem E07 {h c:Nat} (hc:c<256):h-h%256+(h%256 ^^^ c)=h ^^^ c:=by
 have e1:(h ^^^ c)/256=h/256:=by
  have:=Nat.xor_div_two_pow (a:=h) (b:=c) (n:=8);rw [show (2:Nat) ^ 8=256 from rfl,Nat.div_eq_of_lt hc,Nat.xor_zero] at this;exact this
 have e2:(h ^^^ c)%256=h%256 ^^^ c:=by
  have:=Nat.xor_mod_two_pow (a:=h) (b:=c) (n:=8);rw [show (2:Nat) ^ 8=256 from rfl,E5P hc] at this;exact this
 have h1:=Nat.div_add_mod (h ^^^ c) 256;have h2:=Nat.div_add_mod h 256;rw [e1,e2] at h1;omega
theorem A7K {s:List UInt8} (hs:s.length<9223372036854775807) {q:Nat} {h:A6}:∀ (d i m H:Nat),i+d=s.length->d<m->H<4294967296 ->
  B6Q q m (.c (.i .u64 H)) (.c (.s s)) (iV i) h=some (.c (.i .u64 ((B1p H (s.drop i):Nat):Int)),h)
 | d,i,0,H,_,hm,_=>by omega
 | 0,i,m+1,H,hi,hm,hH=>by
  have c0:¬ (i:Int)<s.length:=by omega
  rw [A7j,E5c (by omega)];simp only [esc,c0,B1p,List.foldl_nil]
 | d+1,i,m+1,H,hi,hm,hH=>by
  have h2:i<s.length:=by omega
  have hb:=s[i].toNat_lt;have ih:=A7K hs (q:=q) (h:=h) d (i+1) m (D3q H s[i]) (by omega) (by omega) D1F;have c0:(i:Int)<s.length:=by omega
  have hx:(H ^^^ s[i].toNat)<2 ^ 32:=Nat.xor_lt_two_pow (by simpa using hH) (by omega);have e0:N5 .rem (.c (.i .u64 (H:Int))) (.c (.i .u64 256))=some (.c (.i .u64 ((H%256:Nat):Int))):=by
   rw [A7M (by omega) (by omega)];simp
  have e1:IntKind.wrap .u64 (s[i].toNat:Int)=s[i].toNat:=wrap_u64 (by omega) (by omega);have e2:N5 .xor (.c (.i .u64 ((H%256:Nat):Int))) (.c (.i .u64 (s[i].toNat:Int)))=some (.c (.i .u64 ((H%256 ^^^ s[i].toNat:Nat):Int))):=by
   rw [D2n];have h1:(IntKind.u64).bits=64:=rfl;have h3:(H%256 ^^^ s[i].toNat)<2 ^ 64:=Nat.xor_lt_two_pow (by omega) (by omega);rw [h1];simp only [BitVec.ofInt_natCast,BitVec.toNat_xor,BitVec.toNat_ofNat];rw [E5P (show H%256<2 ^ 64 by omega),E5P (show s[i].toNat<2 ^ 64 by omega)];exact congrArg some (congrArg Val.c (congrArg (Cell.i .u64) (wrap_u64 (by omega) (by omega))))
  have hl:=E07 (h:=H) (c:=s[i].toNat) (by omega);have e3:IntKind.wrap .u64 ((H:Int)-((H%256:Nat):Int))=((H-H%256:Nat):Int):=by rw [wrap_u64 (by omega) (by omega)];omega
  have e4:IntKind.wrap .u64 (((H-H%256:Nat):Int)+((H%256 ^^^ s[i].toNat:Nat):Int))=((H ^^^ s[i].toNat:Nat):Int):=by
   have e:((H-H%256:Nat):Int)+((H%256 ^^^ s[i].toNat:Nat):Int)=((H ^^^ s[i].toNat:Nat):Int):=by rw [<-hl];omega
   rw [e];exact wrap_u64 (by omega) (by omega)
  have e5:IntKind.wrap .u64 (((H ^^^ s[i].toNat:Nat):Int)*16777619)=(((H ^^^ s[i].toNat)*16777619:Nat):Int):=by
   have e:((H ^^^ s[i].toNat:Nat):Int)*16777619=(((H ^^^ s[i].toNat)*16777619:Nat):Int):=by omega
   rw [e];exact wrap_u64 (by omega) (by omega)
  have e6:N5 .rem (.c (.i .u64 (((H ^^^ s[i].toNat)*16777619:Nat):Int))) (.c (.i .u64 4294967296))=some (.c (.i .u64 ((D3q H s[i]:Nat):Int))):=by
   rw [A7M (a:=(((H ^^^ s[i].toNat)*16777619:Nat):Int)) (b:=4294967296) (by omega) (by omega)];unfold D3q;exact congrArg some (congrArg Val.c (congrArg (Cell.i .u64) (by omega)))
  rw [A7j,E46 h2];simp only [esc,c0,e0,jI h2,e1,e2,e3,e4,e5,e6,C6 (show i+1<9223372036854775808 by omega)];exact ih
theorem C1N {s:List UInt8} (hs:s.length<9223372036854775807) {h:A6}:B8y [.c (.s s)] h=some (.c (.i .u64 ((xT s:Nat):Int)),h):=by
 have hm:∀ h,A8T [.c (.i .u64 2166136261),.c (.s s)] h=some (.c (.i .u64 ((xT s:Nat):Int)),h):=λh=>by
  refine B8x (n:=s.length+1) (h2:=ro h) ?_ rfl;rw [C3Z];exact A7K hs (q:=s.length+1) (h:=ro h) s.length 0 (s.length+1) 2166136261 (by omega) (by omega) (by omega)
 refine C4F (n:=0) (h2:=ro h) ?_ rfl;rw [D0G];simp only [esc,hm]
end Go.Proofs.YtbnkgnfhgbhblaaGreat
namespace Go.Proofs.YtbnkgnfhgbhblaaGreat
open Go Go.Esc
set_option maxRecDepth 100000
noncomputable section
variable (n m m2:Nat) (a0 x1 x3 x10:Val) (h:A6)
def aI:FD Tryz.prog:=⟨px 0X11211212015211212241e82d161e47c61c044c61907c4961a7c61c142e4d182d1215211212241a81a11637c496187c61c14294d5180241881a11889657c61c141e4d41a1220246c1a149617c61c141b4d41a1221a1211a15211212244c314889657c61c0474d4180243831189617c61c0444d4312231201a05031062ec2112,[],[],[.tmp 2],[]⟩
def A2X:=aI.R
def C7v:AtH:=aI.lj 0 n [] [x1,x3]
def C7w:AtH:=aI.lj 1 n [] [x1,x10]
def A3u:=tT [⟨1,2,C7v⟩,⟨1,2,C7w⟩]
def B8p:=mR A2X aI A3u n [a0] h
def U5:=mJ aI A3u 0 n [] [x1,x3] h
def cV:=mJ aI A3u 1 n [] [x1,x10] h
def B2b:=aI.K Tryz.func43
def A3r:=aI.S
theorem mB:SOk Tryz.prog 43 A3r:=B2b.sok
theorem B4k:E5 A2X A3r:=B2b.flat
def A1D:FD Tryz.prog:=⟨px 0X11312184881de6291a91e421ac64dc4802c4885839632222bc1816161ac06881a916351ac2c48838518523222c4881de6691a341ac3802c488493945222288011fc6113a6802e3f691f83a164911e431ac61c244c49491703b5cb181196523322c4881de619591e421ac61c144c2c4883855213222c4881de619491e421ac61c044c6e4882a3955213218c24881de1c52d96111ac64ac3b172f162b153141f131b12711310181b1811f3fd55213201783166a4881de5a001c3e843222241637c3e1b121c4214258416101ac4319393421322123101c2d862ec32122,[.c (.i .u8 101),.c (.i .u8 115),.c (.i .u8 99),.c (.i .u8 104),.c (.i .u8 97),.c (.i .u8 116),.c (.i .u8 49)],[.b2s (.t 37)],[.cellN 2 256,.tmp 3],[cal mB,cal A11,cal vB,cal D04,cal A58,cal A57,cal C0Q]⟩
def A8z:=A1D.R
def C4w:=mR A8z A1D (tT []) n [a0] h
def C0z:=A1D.K Tryz.func88
def A9t:=A1D.S
theorem A9u:SOk Tryz.prog 88 A9t:=C0z.sok
theorem B9n:E5 A8z A9t:=C0z.flat
def A1C:FD Tryz.prog:=⟨px 0X113121831de3834a3933222016d3121831de02a3e83322224632a2a807868b4488783b3c488783b601637c483a174862321cc01c824881de1c72d912a6801e38691bc2d16131ac3832e39181876215262231a8231de12a062df6121a112a1032a3e87e019596321ac44883819496321ac44881f397119621337806c4112e6802a1d69681914916311ac49696301ac44881a391842132102a2d862ec32122,[.c (.b true)],[.eqA true (E41 256 (.i .u8)) (.t 29) (.t 30)],[.cellN 2 3,.tmp 3],[cal A57,cal D03,cal vU,cal A9u]⟩
def A8y:=A1C.R
def C4v:=mR A8y A1C (tT []) n [a0] h
def C0y:=A1C.K Tryz.func40
def A9r:=A1C.S
theorem A9s:SOk Tryz.prog 40 A9r:=C0y.sok
theorem B9m:E5 A8y A9r:=C0y.flat
end
noncomputable section
variable (n m m2:Nat) (a0 a1 x3 x6 x7:Val) (h:A6)
def A5e:FD Tryz.prog:=⟨px 0X15011012101102,[],[],[.tmp 0],[]⟩
def C4h:=A5e.R
def C70:=mR C4h A5e (tT []) n [] h
def C3N:=A5e.K Tryz.func56
def B36:=A5e.S
theorem A3d:SOk Tryz.prog 56 B36:=C3N.sok
theorem C2V:E5 C4h B36:=C3N.flat
def B08:FD Tryz.prog:=⟨px 0X12c211627c6101ac433842123062ec2112,[.c (.b false)],[],[.tmp 2],[cal mB]⟩
def B79:=B08.R
def D0O:=mR B79 B08 (tT []) n [a0] h
def C9d:=B08.K Tryz.func118
def B8X:=B08.S
theorem A52:SOk Tryz.prog 118 B8X:=C9d.sok
theorem C42:E5 B79 B8X:=C9d.flat
def yN:FD Tryz.prog:=⟨px 0X15c0148214961a7c61c144c5607c0171ad601932230110121232222462bc6101ac433836122113101062ec3112,[],[],[.tmp 2,.tmp 3],[cal A52,cal A3d]⟩
def A5t:=yN.R
def C2e:=mR A5t yN (tT []) n [a0] h
def B5s:=yN.K Tryz.func53
def A50:=yN.S
theorem xI:SOk Tryz.prog 53 A50:=B5s.sok
theorem B6b:E5 A5t A50:=B5s.flat
def A1z:FD Tryz.prog:=⟨px 0X1682161a07c3e03e1a142124c0483112a6801e18693c516101ac43639743221062ec2112,[],[],[.tmp 2],[cal xI]⟩
def A8n:=A1z.R
def C4g:=mR A8n A1z (tT []) n [a0] h
def C0n:=A1z.K Tryz.func93
def A1Z:=A1z.S
theorem A0H:SOk Tryz.prog 93 A1Z:=C0n.sok
theorem B8V:E5 A8n A1Z:=C0n.flat
def sX:FD Tryz.prog:=⟨px 0X17c216a1f12212787153e01e7d2186c3161e13cc61011113fc3e03e1a15184c411a02764342157633307024763331a617c1187634276330605106101ac4353937633231313b81312213b862ec2112,[],[],[.tmp 2],[cal A0H]⟩
def C4i:=sX.R
def C1B:AtH:=sX.lj 0 n [m] [x3,x6,x7]
def C5p:=tT [⟨2,3,C1B⟩]
def C71:=mR C4i sX C5p n [a0] h
def B0m:=mL sX C5p 0 n [m] [x3,x6,x7] h
def C3O:=sX.K Tryz.func44
def B37:=sX.S
theorem B2n:SOk Tryz.prog 44 B37:=C3O.sok
theorem C41:pE C4i B37:=C3O.out
def pL:FD Tryz.prog:=⟨px 0X118841362e2a861e192f7f62f1f15e2f4f42f360361e2a85641f7f41f3606101ac1e3381d412341022ed22122,[.c (.b false)],[],[.tmp 4],[cal A52]⟩
def A0u:=pL.R
def B5L:=mR A0u pL (tT []) n [a0,a1] h
def A76:=pL.K Tryz.func119
def A0I:=pL.S
theorem B6a:SOk Tryz.prog 119 A0I:=A76.sok
theorem B1K:E5 A0u A0I:=A76.flat
def yO:FD Tryz.prog:=⟨px 0X1701cc01b841496187c5677c4062a07c4961a7c5677c405e2a11b6543218c01887112a6801e28697c1d16111ac6a31e39771220130101413654322462bc61a201ac403e3193941c213221233010141022ed42122,[.c (.b false),.c (.b true)],[],[.tmp 4,.tmp 5,.tmp 6],[cal B6a,cal xI]⟩
def A5u:=yO.R
def C2f:=mR A5u yO (tT []) n [a0,a1] h
def B5t:=yO.K Tryz.func54
def A51:=yO.S
theorem A69:SOk Tryz.prog 54 A51:=B5t.sok
theorem B6c:E5 A5u A51:=B5t.flat
def uQ:FD Tryz.prog:=⟨px 0X119841362e2a861e13b7f63b1f06e3b4f43b360362e2a861e41f7f6111f1af3e31f3b41f3606101ac1e3381f412341022ed22122,[.c (.b false)],[],[.tmp 4],[cal A52,cal A0H]⟩
def A2M:=uQ.R
def B78:=mR A2M uQ (tT []) n [a0,a1] h
def B1Z:=uQ.K Tryz.func80
def A3c:=uQ.S
theorem B8W:SOk Tryz.prog 80 A3c:=B1Z.sok
theorem B35:E5 A2M A3c:=B1Z.flat
end
noncomputable section
variable (n m m2:Nat) (a0:Val) (h:A6)
def A48:FD Tryz.prog:=⟨px 0X129c21364a2a861e16f7f66f1f046f4f61906f7f4961a6f7f66f1f146f4f60362e2a81625b7f496185b7f65b1f145b4f60362a2a81889619497f6491f14494f60362a2a849642f7f62f1f142f4f60362a2a848896191d7f61d1f041d4f60189647c61c044c4a2123062ec2112,[.c (.b false)],[],[.tmp 2],[]⟩
def B3k:=A48.R
def C7N:=mR B3k A48 (tT []) n [a0] h
def C3z:=A48.K Tryz.func91
def B3P:=A48.S
theorem A29:SOk Tryz.prog 91 B3P:=C3z.sok
theorem C2D:E5 B3k B3P:=C3z.flat
def A49:FD Tryz.prog:=⟨px 0X11f821611a321ac1c028892889173c5bd42121dc3162e13cc629201ac6111ac06881c01c2e173121ac3162a13cc649201ac61c244c7a29163121883162e13cc619201ac64c861c144c4a1b173122583162e13cc619201ac64c861c044c64ac3b172f162b153141f131b12711310181b18143fd18312213b862ec2112,[.c (.i .u8 101),.c (.i .u8 115),.c (.i .u8 99),.c (.i .u8 104),.c (.i .u8 97),.c (.i .u8 116),.c (.i .u8 49)],[.b2s (.t 23)],[.tmp 2],[cal gI,cal B52,cal iD]⟩
def B3l:=A49.R
def C7O:=mR B3l A49 (tT []) n [a0] h
def C3A:=A49.K Tryz.func92
def B3Q:=A49.S
theorem C8a:SOk Tryz.prog 92 B3Q:=C3A.sok
theorem C4L:pE B3l B3Q:=C3A.out
def A47:FD Tryz.prog:=⟨px 0X173121831de3833d39332220133121831de02a3e83322224673a2a865a2bf61a245a1af05a36135a1af3835a3b6062bc6121ac6a32a391a3b6232622318c231de2a62d96121a112a1032a3e86a019596311ac0019496311ac01c118620325c0584112a6801e1a694c7149696301ac0181742032302a22d922022,[.c (.b false),.c (.b true)],[],[.cellN 2 3,.tmp 3],[cal B2k,cal qD,cal A29,cal C8a,cal dV]⟩
def B3j:=A47.R
def C7M:=mR B3j A47 (tT []) n [a0] h
def C3y:=A47.K Tryz.func42
def B3O:=A47.S
theorem C79:SOk Tryz.prog 42 B3O:=C3y.sok
theorem C2C:E5 B3j B3O:=C3y.flat
end
noncomputable section
variable (n m m2:Nat) (a0 a1 x1 x7 x8 x9:Val) (h:A6)
def A1r:FD Tryz.prog:=⟨px 0X129411412011d4114122461e17c61c1184c49667c19677c42e163b1203011ac415607c4034122419617c42a122b2132212301141141224632e2a861e4387f6381f06a384f438360631e2a8161287f42836062bc6101ac1e3381d2921322123141022ed22122,[.c (.b true)],[],[.tmp 4],[cal A29]⟩
def A8h:=A1r.R
def C35:=mR A8h A1r (tT []) n [a0,a1] h
def C0c:=A1r.K Tryz.func47
def A80:=A1r.S
theorem A0C:SOk Tryz.prog 47 A80:=C0c.sok
theorem B8E:E5 A8h A80:=C0c.flat
def B04:FD Tryz.prog:=⟨px 0X118841362e2a861e192f7f62f1f15e2f4f42f360361e2a85641f7f41f3606101ac1e3381d412341022ed22122,[.c (.b false)],[],[.tmp 4],[cal A29]⟩
def B73:=B04.R
def D0I:=mR B73 B04 (tT []) n [a0,a1] h
def C87:=B04.K Tryz.func173
def B8F:=B04.S
theorem D0V:SOk Tryz.prog 173 B8F:=C87.sok
theorem C4M:E5 B73 B8F:=C87.flat
def cC:FD Tryz.prog:=⟨px 0X1701d801cc414803c3915654321981915607c4a2913180101c8715607c3c04182449627c6e2d122e191871521a81815607c5e2b131918714215191871411a0702461a17c402e1e132819187152191871431918714060550119187142187231019021871320130101413654322462bc61a201ac404a31a3941d1221133010141022ed42122,[.c (.b false),.c (.b true)],[],[.tmp 4,.tmp 5,.tmp 6],[cal D0V]⟩
def A5o:=cC.R
def B2I:AtH:=cC.lj 0 n [m] [x1,x7,x8,x9]
def C8z:AtH:=cC.lj 1 n [m] [x1,x7,x8,x9]
def A6d:=tT [⟨2,4,B2I⟩,⟨2,4,C8z⟩]
def C15:=mR A5o cC A6d n [a0,a1] h
def A4A:=mL cC A6d 0 n [m] [x1,x7,x8,x9] h
def A4z:=mJ cC A6d 1 n [m] [x1,x7,x8,x9] h
def B5k:=cC.K Tryz.func106
def A5Q:=cC.S
theorem C2E:SOk Tryz.prog 106 A5Q:=B5k.sok
theorem B55:E5 A5o A5Q:=B5k.flat
end
end Go.Proofs.YtbnkgnfhgbhblaaGreat
namespace Go.Proofs.YtbnkgnfhgbhblaaGreat
open Go Go.Esc
def R4 (b n:Int):Bool:=decide (16<=b)&&decide (b<=512)&&decide (8<=n)&&decide (n<=128)&&decide (n%8=0)&&decide (2+n/8<b)
theorem J5 {b n:Int}:R4 b n=true↔16<=b/\b<=512/\8<=n/\n<=128/\n%8=0/\2+n/8<b:=by
 unfold R4;simp [and_assoc]
theorem Z3 {b n:Int}:R4 b n=false↔¬ (16<=b/\b<=512/\8<=n/\n<=128/\n%8=0/\2+n/8<b):=by
 rw [<-J5];simp
abbrev D3 (b n m:Int):List Cell:=[.i .i64 b,.i .i64 n,.i .u64 m]
theorem bG {b n m:Int} {h:A6}:A3r [.a (D3 b n m)] h=some (iV (bif R4 b n then 0 else 1),h):=by
 have key:∀ g,∃ g',A2X 0 [.a (D3 b n m)] g=some (iV (bif R4 b n then 0 else 1),g'):=by
  intro g;rw [B8p];have bad:R4 b n=false->(some (iV 1,g++[rT (D3 b n m)]))=some (iV (bif R4 b n then 0 else 1),g++[rT (D3 b n m)]):=λh=>by rw [h];rfl
  by_cases c1:b<16
  ·rw [Z3.2 (by omega)];exact ⟨_,by simp only [esc,esh,Nat.reduceAdd,Nat.reduceMul,Nat.reduceLT,c1,U5]<;>rfl⟩
  ·by_cases c2:512<b
   ·rw [Z3.2 (by omega)];exact ⟨_,by simp only [esc,esh,Nat.reduceAdd,Nat.reduceMul,Nat.reduceLT,c1,c2,U5]<;>rfl⟩
   ·by_cases c3:n<8
    ·rw [Z3.2 (by omega)];exact ⟨_,by simp only [esc,esh,Nat.reduceAdd,Nat.reduceMul,Nat.reduceLT,c1,c2,c3,U5,cV]<;>rfl⟩
    ·by_cases c4:128<n
     ·rw [Z3.2 (by omega)];exact ⟨_,by simp only [esc,esh,Nat.reduceAdd,Nat.reduceMul,Nat.reduceLT,c1,c2,c3,c4,U5,cV]<;>rfl⟩
     ·have e1:=A7M (a:=n) (b:=8) (k:=.i64) (by omega) (by omega);by_cases c5:n%8=0
      ·have e2:=zQ (a:=n) (b:=8) (by omega) (by omega) (by omega);have e3:IntKind.wrap .i64 (2+n/8)=2+n/8:=wrap_i64 (by omega) (by omega);by_cases c6:b<=2+n/8
       ·rw [Z3.2 (by omega)];exact ⟨_,by simp only [esc,esh,Nat.reduceAdd,Nat.reduceMul,Nat.reduceLT,c1,c2,c3,c4,e1,c5,e2,e3,c6,U5,cV]<;>rfl⟩
       ·rw [J5.2 (by omega)];exact ⟨_,by simp only [esc,esh,Nat.reduceAdd,Nat.reduceMul,Nat.reduceLT,c1,c2,c3,c4,e1,c5,e2,e3,c6,U5,cV]<;>rfl⟩
      ·rw [Z3.2 (by omega)];exact ⟨_,by simp only [esc,esh,Nat.reduceAdd,Nat.reduceMul,Nat.reduceLT,c1,c2,c3,c4,e1,c5,U5,cV]<;>rfl⟩
 obtain ⟨g',e⟩:=key (ro h);exact B4k e (by simp)
theorem W2 {b n m:Int} {h:A6}:B3P [.a (D3 b n m)] h=some (bV (R4 b n),h):=by
 have key:∀ g,∃ g',B3k 0 [.a (D3 b n m)] g=some (bV (R4 b n),g'):=by
  intro g;rw [C7N];by_cases c1:16<=b
  ·by_cases c2:b<=512
   ·by_cases c3:8<=n
    ·by_cases c4:n<=128
     ·have e1:=A7M (a:=n) (b:=8) (k:=.i64) (by omega) (by omega);by_cases c5:n%8=0
      ·have e2:=zQ (a:=n) (b:=8) (by omega) (by omega) (by omega);have e3:IntKind.wrap .i64 (2+n/8)=2+n/8:=wrap_i64 (by omega) (by omega);by_cases c6:2+n/8<b
       ·rw [J5.2 (by omega)];exact ⟨_,by simp only [esc,esh,Nat.reduceAdd,Nat.reduceMul,Nat.reduceLT,c1,c2,c3,c4,e1,c5,e2,e3,c6]<;>rfl⟩
       ·rw [Z3.2 (by omega)];exact ⟨_,by simp only [esc,esh,Nat.reduceAdd,Nat.reduceMul,Nat.reduceLT,c1,c2,c3,c4,e1,c5,e2,e3,c6]<;>rfl⟩
      ·rw [Z3.2 (by omega)];exact ⟨_,by simp only [esc,esh,Nat.reduceAdd,Nat.reduceMul,Nat.reduceLT,c1,c2,c3,c4,e1,c5]<;>rfl⟩
     ·rw [Z3.2 (by omega)];exact ⟨_,by simp only [esc,esh,Nat.reduceAdd,Nat.reduceMul,Nat.reduceLT,c1,c2,c3,c4]<;>rfl⟩
    ·rw [Z3.2 (by omega)];exact ⟨_,by simp only [esc,esh,Nat.reduceAdd,Nat.reduceMul,Nat.reduceLT,c1,c2,c3]<;>rfl⟩
   ·rw [Z3.2 (by omega)];exact ⟨_,by simp only [esc,esh,Nat.reduceAdd,Nat.reduceMul,Nat.reduceLT,c1,c2]<;>rfl⟩
  ·rw [Z3.2 (by omega)];exact ⟨_,by simp only [esc,esh,Nat.reduceAdd,Nat.reduceMul,Nat.reduceLT,c1]<;>rfl⟩
 obtain ⟨g',e⟩:=key (ro h);exact C2D e (by simp)
theorem kL {b n m:Int} {h:A6}:B8X [.a (D3 b n m)] h=some (bV (R4 b n),h):=by
 have key:∀ g,∃ g',B79 0 [.a (D3 b n m)] g=some (bV (R4 b n),g'):=by
  intro g;rw [D0O];cases c:R4 b n with
  | true=>exact ⟨_,by simp only [esc,esh,Nat.reduceAdd,Nat.reduceMul,Nat.reduceLT,bG,c]<;>rfl⟩
  | false=>exact ⟨_,by simp only [esc,esh,Nat.reduceAdd,Nat.reduceMul,Nat.reduceLT,bG,c,Int.reduceEq]<;>rfl⟩
 obtain ⟨g',e⟩:=key (ro h);exact C42 e (by simp)
theorem wJ {h:A6}:B36 [] h=some (iV 1,h) :=
 C2V (n:=0) (h2:=ro h) (by rw [C70]) rfl
def rQ (b n:Int):Int:=bif R4 b n then 2 else 0
def A1i (b n:Int):Int:=bif R4 b n then n/8 else 0
def kI (b n:Int):Int:=rQ b n+A1i b n
theorem A3K {b n m:Int} {h:A6}:A50 [.a (D3 b n m)] h=some (.t [.c (.i .i64 (rQ b n)),.c (.i .i64 (A1i b n))],h):=by
 have key:∀ g,∃ g',A5t 0 [.a (D3 b n m)] g=some (.t [.c (.i .i64 (rQ b n)),.c (.i .i64 (A1i b n))],g'):=by
  intro g;rw [C2e];unfold rQ A1i;cases c:R4 b n with
  | true =>
   have c':=J5.1 c;have e2:=zQ (a:=n) (b:=8) (by omega) (by omega) (by omega);have e3:IntKind.wrap .i64 (1+1)=2:=wrap_i64 (by omega) (by omega);exact ⟨_,by simp only [esc,esh,Nat.reduceAdd,Nat.reduceMul,Nat.reduceLT,kL,c,wJ,e2,e3]<;>rfl⟩
  | false=>exact ⟨_,by simp only [esc,esh,Nat.reduceAdd,Nat.reduceMul,Nat.reduceLT,kL,c]<;>rfl⟩
 obtain ⟨g',e⟩:=key (ro h);exact B6b e (by simp)
theorem A0Z {b n:Int}:0<=kI b n/\kI b n<=18:=by
 unfold kI rQ A1i;cases c:R4 b n with
 | true=>have:=J5.1 c;simp only [cond_true];omega
 | false=>simp only [cond_false];omega
theorem zL {b n m:Int} {h:A6}:A1Z [.a (D3 b n m)] h=some (iV (kI b n),h):=by
 have key:∀ g,∃ g',A8n 0 [.a (D3 b n m)] g=some (iV (kI b n),g'):=by
  intro g;rw [C4g];have hr:=A0Z (b:=b) (n:=n);have e3:IntKind.wrap .i64 (rQ b n+A1i b n)=kI b n:=wrap_i64 (by unfold kI at hr;omega) (by unfold kI at hr;omega);exact ⟨_,by simp only [esc,esh,Nat.reduceAdd,Nat.reduceMul,Nat.reduceLT,A3K,e3]<;>rfl⟩
 obtain ⟨g',e⟩:=key (ro h);exact B8V e (by simp)
def Q7 (b n i:Int):Bool:=R4 b n&&decide (1<=i)&&decide (i<=n)
def iP (b n i:Int):Bool:=R4 b n&&decide (kI b n<=i)&&decide (i<b)
theorem A7u {b n m i:Int} {h:A6}:A0I [.a (D3 b n m),iV i] h=some (bV (Q7 b n i),h):=by
 have key:∀ g,∃ g',A0u 0 [.a (D3 b n m),iV i] g=some (bV (Q7 b n i),g'):=by
  intro g;rw [B5L];unfold Q7;cases c:R4 b n with
  | true =>
   by_cases c1:1<=i
   ·exact ⟨_,by simp only [esc,esh,Nat.reduceAdd,Nat.reduceMul,Nat.reduceLT,kL,c,c1]<;>rfl⟩
   ·exact ⟨_,by simp only [esc,esh,Nat.reduceAdd,Nat.reduceMul,Nat.reduceLT,kL,c,c1]<;>rfl⟩
  | false=>exact ⟨_,by simp only [esc,esh,Nat.reduceAdd,Nat.reduceMul,Nat.reduceLT,kL,c]<;>rfl⟩
 obtain ⟨g',e⟩:=key (ro h);exact B1K e (by simp)
theorem C1P {b n m i:Int} {h:A6}:B8F [.a (D3 b n m),iV i] h=some (bV (Q7 b n i),h):=by
 have key:∀ g,∃ g',B73 0 [.a (D3 b n m),iV i] g=some (bV (Q7 b n i),g'):=by
  intro g;rw [D0I];unfold Q7;cases c:R4 b n with
  | true =>
   by_cases c1:1<=i
   ·exact ⟨_,by simp only [esc,esh,Nat.reduceAdd,Nat.reduceMul,Nat.reduceLT,W2,c,c1]<;>rfl⟩
   ·exact ⟨_,by simp only [esc,esh,Nat.reduceAdd,Nat.reduceMul,Nat.reduceLT,W2,c,c1]<;>rfl⟩
  | false=>exact ⟨_,by simp only [esc,esh,Nat.reduceAdd,Nat.reduceMul,Nat.reduceLT,W2,c]<;>rfl⟩
 obtain ⟨g',e⟩:=key (ro h);exact C4M e (by simp)
theorem C6k {b n m i:Int} {h:A6}:A3c [.a (D3 b n m),iV i] h=some (bV (iP b n i),h):=by
 have key:∀ g,∃ g',A2M 0 [.a (D3 b n m),iV i] g=some (bV (iP b n i),g'):=by
  intro g;rw [B78];unfold iP;cases c:R4 b n with
  | true =>
   by_cases c1:kI b n<=i
   ·exact ⟨_,by simp only [esc,esh,Nat.reduceAdd,Nat.reduceMul,Nat.reduceLT,kL,zL,c,c1]<;>rfl⟩
   ·exact ⟨_,by simp only [esc,esh,Nat.reduceAdd,Nat.reduceMul,Nat.reduceLT,kL,zL,c,c1]<;>rfl⟩
  | false=>exact ⟨_,by simp only [esc,esh,Nat.reduceAdd,Nat.reduceMul,Nat.reduceLT,kL,c]<;>rfl⟩
 obtain ⟨g',e⟩:=key (ro h);exact B35 e (by simp)
def V4 (b n i:Int):Int:=bif Q7 b n i then 2+(i-1)/8 else 0
def bR (b n i:Int):Int:=bif Q7 b n i then (i-1)%8 else 0
theorem kT {b n i:Int}:Q7 b n i=true↔R4 b n=true/\1<=i/\i<=n:=by
 unfold Q7;simp [and_assoc]
theorem D3l {b n i:Int}:iP b n i=true↔R4 b n=true/\kI b n<=i/\i<b:=by
 unfold iP;simp [and_assoc]
theorem A3L {b n m i:Int} {h:A6}:A51 [.a (D3 b n m),iV i] h=some (.t [.c (.i .i64 (V4 b n i)),.c (.i .i64 (bR b n i)),.c (.b (Q7 b n i))],h):=by
 have key:∀ g,∃ g',A5u 0 [.a (D3 b n m),iV i] g=some (.t [.c (.i .i64 (V4 b n i)),.c (.i .i64 (bR b n i)),.c (.b (Q7 b n i))],g'):=by
  intro g;rw [C2f];unfold V4 bR;cases c:Q7 b n i with
  | true =>
   obtain ⟨c1,c2,c3⟩:=kT.1 c;have c':=J5.1 c1;have e0:rQ b n=2:=by unfold rQ;rw [c1];rfl
   have e1:IntKind.wrap .i64 (i-1)=i-1:=wrap_i64 (by omega) (by omega);have e2:=zQ (a:=i-1) (b:=8) (by omega) (by omega) (by omega);have e3:IntKind.wrap .i64 (2+(i-1)/8)=2+(i-1)/8:=wrap_i64 (by omega) (by omega);have e4:=A7M (a:=i-1) (b:=8) (k:=.i64) (by omega) (by omega);exact ⟨_,by simp only [esc,esh,Nat.reduceAdd,Nat.reduceMul,Nat.reduceLT,A7u,c,A3K,e0,e1,e2,e3,e4]<;>rfl⟩
  | false=>exact ⟨_,by simp only [esc,esh,Nat.reduceAdd,Nat.reduceMul,Nat.reduceLT,A7u,c]<;>rfl⟩
 obtain ⟨g',e⟩:=key (ro h);exact B6c e (by simp)
theorem D7p {b n:Int}:0<=rQ b n/\rQ b n<=2/\0<=A1i b n/\A1i b n<=16:=by
 unfold rQ A1i;cases c:R4 b n with
 | true=>have:=J5.1 c;simp only [cond_true];omega
 | false=>simp only [cond_false];omega
def upto (d:Nat):List Int:=(E5v d).map λ(i:Nat)=>(i:Int)
theorem upto_length {d:Nat}:(upto d).length=d:=by simp [upto]
theorem upto_succ {d:Nat}:upto (d+1)=upto d++[(d:Int)]:=by simp [upto,List.range_succ]
theorem B2S {g:A6} {D k:Nat} (hD:D<=18):∀ d i m h id,i+d=D->d<m->Low g.length g h->g.length<=id->rd h id=rT (encI (upto i)) ->
  ∃ v' h',C1B k m (sV id 0 i 1) (iV D) (iV i) h=some (v',h')/\Out g.length h' v' 1 D (encI (upto D))
 | d,i,0,h,id,_,hm,_,_,_=>by omega
 | 0,i,m+1,h,id,hi,hm,hlow,hb,hr=>by
  have e:i=D:=by omega
  subst e;have h1':¬ (i:Int)<i:=by omega
  rw [B0m];exact ⟨_,_,by simp only [esc,h1']<;>rfl,by rw [A8,upto_length];omega,id,rfl,hb,hr⟩
 | d+1,i,m+1,h,id,hi,hm,hlow,hb,hr=>by
  obtain ⟨h',a1,a2,a3,a4,a5⟩:=push (ys:=[.i .i64 (i:Int)]) (sz:=1) (n:=i) hlow hr (by rw [A8,upto_length];omega) hb rfl (by omega) (by omega);have e4:encI (upto i)++[Cell.i .i64 (i:Int)]=encI (upto (i+1)):=by rw [upto_succ,A2g];rfl
  rw [e4] at a2;obtain ⟨v',h'',b1,b2⟩:=B2S (k:=k) hD d (i+1) m h' (h.length+1) (by omega) (by omega) a3 a4 a2;have h1':(i:Int)<D:=by omega
  have e5:D9 [o0] [(0,1,iV (i:Int))]=some [.i .i64 (i:Int)]:=rfl;rw [B0m];exact ⟨v',h'',by simp only [esc,h1',e5,a1,C6 (show i+1<9223372036854775808 by omega)];exact b1,b2⟩
theorem C1A {b n m:Int} {h:A6}:B37 [.a (D3 b n m)] h=some (sV h.length 0 (kI b n).toNat 1,h++[rT (encI (upto (kI b n).toNat))]):=by
 have hr:=A0Z (b:=b) (n:=n);obtain ⟨v',h',e,ho⟩:=B2S (g:=ro h) (D:=(kI b n).toNat) (k:=(kI b n).toNat+1) (by omega) (kI b n).toNat 0 ((kI b n).toNat+1) (ro h++[rT (D3 b n m),rT [],rT []]) ((ro h).length+2) (by omega) (by omega) ((Low.refl (E44 _)).new _) (by omega) (by simp;rfl);refine C41 (n:=(kI b n).toNat+1) (v:=v') (h2:=h') ?_ (by simpa [E7] using ho) (by simp);rw [C71];rw [show (((kI b n).toNat:Nat):Int)=kI b n by omega] at e;simp only [esc,esh,Nat.reduceAdd,Nat.reduceMul,Nat.reduceLT,zL];exact e
theorem A40 {h:A6} {I k:Nat} (hI:1<=I) (hI2:I<=128):∀ d i m:Nat,i+d=I->d<m->1<=i ->
  B2I k m (iV I) (iV ((2+(i-1)/8:Nat):Int)) (iV (((i-1)%8:Nat):Int)) (iV i) h=some (.t [.c (.i .i64 ((2+(I-1)/8:Nat):Int)),.c (.i .i64 (((I-1)%8:Nat):Int)),.c (.b true)],h)
 | d,i,0,_,hm,_=>by omega
 | 0,i,m+1,hi,hm,h1=>by
  have e:i=I:=by omega
  subst e;have c0:¬ (i:Int)<i:=by omega
  rw [A4A];simp only [esc,c0]
 | d+1,i,m+1,hi,hm,h1=>by
  have ih:=A40 (h:=h) (k:=k) hI hI2 d (i+1) m (by omega) (by omega) (by omega);have c0:(i:Int)<I:=by omega
  rw [A4A];by_cases c1:(i-1)%8+1=8
  ·have c1':(((i-1)%8+1:Nat):Int)=8:=by omega
   have e1:2+(i+1-1)/8=2+(i-1)/8+1:=by omega
   have e2:(i+1-1)%8=0:=by omega
   rw [e1,e2] at ih;simp only [esc,c0,C6 (show (i-1)%8+1<9223372036854775808 by omega),c1',C6 (show 2+(i-1)/8+1<9223372036854775808 by omega),A4z,C6 (show i+1<9223372036854775808 by omega)];exact ih
  ·have c1':¬ (((i-1)%8+1:Nat):Int)=8:=by omega
   have e1:2+(i+1-1)/8=2+(i-1)/8:=by omega
   have e2:(i+1-1)%8=(i-1)%8+1:=by omega
   rw [e1,e2] at ih;simp only [esc,c0,C6 (show (i-1)%8+1<9223372036854775808 by omega),c1',A4z,C6 (show i+1<9223372036854775808 by omega)];exact ih
theorem C7f {b n m i:Int} {h:A6}:A5Q [.a (D3 b n m),iV i] h=some (.t [.c (.i .i64 (V4 b n i)),.c (.i .i64 (bR b n i)),.c (.b (Q7 b n i))],h):=by
 have key:∀ g,∃ g',A5o (i.toNat+1) [.a (D3 b n m),iV i] g=some (.t [.c (.i .i64 (V4 b n i)),.c (.i .i64 (bR b n i)),.c (.b (Q7 b n i))],g'):=by
  intro g;rw [C15];unfold V4 bR;cases c:Q7 b n i with
  | true =>
   obtain ⟨c1,c2,c3⟩:=kT.1 c;have c':=J5.1 c1;have:=A40 (h:=g++[rT (D3 b n m)]) (I:=i.toNat) (k:=i.toNat+1) (by omega) (by omega) (i.toNat-1) 1 (i.toNat+1) (by omega) (by omega) (by omega);rw [show ((i.toNat:Nat):Int)=i by omega,show ((2+(1-1)/8:Nat):Int)=2 from rfl,show (((1-1)%8:Nat):Int)=0 from rfl,show ((1:Nat):Int)=1 from rfl,show ((2+(i.toNat-1)/8:Nat):Int)=2+(i-1)/8 by omega,show (((i.toNat-1)%8:Nat):Int)=(i-1)%8 by omega] at this;exact ⟨_,by simp only [esc,esh,Nat.reduceAdd,Nat.reduceMul,Nat.reduceLT,C1P,c];exact this⟩
  | false=>exact ⟨_,by simp only [esc,esh,Nat.reduceAdd,Nat.reduceMul,Nat.reduceLT,C1P,c]<;>rfl⟩
 obtain ⟨g',e⟩:=key (ro h);exact B55 e (by simp)
def sE (b n no:Int):Int:=if R4 b n=true/\0<=no/\no<b then (if no<2 then no+1 else if (no-2)*8<n then 3 else 4) else 0
theorem A3S {b n m no:Int} {h:A6}:A80 [.a (D3 b n m),iV no] h=some (iV (sE b n no),h):=by
 have key:∀ g,∃ g',A8h 0 [.a (D3 b n m),iV no] g=some (iV (sE b n no),g'):=by
  intro g;rw [C35];unfold sE;cases c:R4 b n with
  | true =>
   have c':=J5.1 c;by_cases c1:no<0
   ·rw [if_neg (by omega)];exact ⟨_,by simp only [esc,esh,Nat.reduceAdd,Nat.reduceMul,Nat.reduceLT,W2,c,c1]<;>rfl⟩
   ·by_cases c2:b<=no
    ·rw [if_neg (by omega)];exact ⟨_,by simp only [esc,esh,Nat.reduceAdd,Nat.reduceMul,Nat.reduceLT,W2,c,c1,c2]<;>rfl⟩
    ·rw [if_pos ⟨rfl,by omega,by omega⟩];by_cases c3:no<2
     ·rw [if_pos c3];have e1:IntKind.wrap .i64 (no+1)=no+1:=wrap_i64 (by omega) (by omega);exact ⟨_,by simp only [esc,esh,Nat.reduceAdd,Nat.reduceMul,Nat.reduceLT,W2,c,c1,c2,c3,e1]<;>rfl⟩
     ·rw [if_neg c3];have e1:IntKind.wrap .i64 (no-2)=no-2:=wrap_i64 (by omega) (by omega);have e2:IntKind.wrap .i64 ((no-2)*8)=(no-2)*8:=wrap_i64 (by omega) (by omega);by_cases c4:(no-2)*8<n
      ·rw [if_pos c4];exact ⟨_,by simp only [esc,esh,Nat.reduceAdd,Nat.reduceMul,Nat.reduceLT,W2,c,c1,c2,c3,e1,e2,c4]<;>rfl⟩
      ·rw [if_neg c4];exact ⟨_,by simp only [esc,esh,Nat.reduceAdd,Nat.reduceMul,Nat.reduceLT,W2,c,c1,c2,c3,e1,e2,c4]<;>rfl⟩
  | false =>
   rw [if_neg (by simp)];exact ⟨_,by simp only [esc,esh,Nat.reduceAdd,Nat.reduceMul,Nat.reduceLT,W2,c]<;>rfl⟩
 obtain ⟨g',e⟩:=key (ro h);exact B8E e (by simp)
theorem B00 (v:Int):0<=IntKind.wrap .u64 v/\IntKind.wrap .u64 v<18446744073709551616:=by
 have hw:IntKind.wrap .u64 v=v%18446744073709551616:=by
  simp only [IntKind.wrap,IntKind.bits,IntKind.signed,E48];rfl
 rw [hw];exact ⟨Int.emod_nonneg _ (by omega),Int.emod_lt_of_pos _ (by omega)⟩
theorem dB {w:Nat} {v:Int} {h:A6} (hw:w<=8):yV [iV w,.c (.i .u64 (IntKind.wrap .u64 v))] h=some (sV h.length 0 w 1,h++[rT (A5 (A9 w v))]):=by
 rw [A1c hw (B00 v).1 (B00 v).2,D2K hw]
theorem D2t {h:A6} {id off len sz:Nat} {cs:List Cell} (hr:rd h id=rT cs) (hn:0<len):xY h (sV id off len sz)=some (sV id off len sz):=by
 simp [xY,hr,hn]
def magicB:List UInt8:=[101,115,99,104,101,97,116,49]
def bQ (b n m:Int):List UInt8:=magicB++A9 2 b++A9 2 n++A9 8 m
def iR (b n m:Int):List UInt8:=N9 256 (bQ b n m++A9 4 (xT (bQ b n m):Nat))
theorem R8 {b n m:Int}:(bQ b n m).length=20:=by simp [bQ,magicB]
theorem T2 {b n m:Int}:(iR b n m).length=256:=F7 (by rw [E43,R8,O7];omega)
theorem D8E {l xs:List UInt8} {a:Nat} (h1:l.length<=a) (h2:a+xs.length<=256) (h3:a<256):A7Z (N9 256 l) a xs=N9 256 (l++zeros (a-l.length)++xs):=by
 unfold A7Z;rw [if_pos (by omega)];simp only [E5j];rw [E5b (by omega),B0K h1 h2]
theorem B7O {b n m:Int} {h:A6} (hm0:0<=m) (hm1:m<18446744073709551616) :
  A9t [.a (D3 b n m)] h=some (.t [.a (A5 (bif R4 b n then iR b n m else zeros 256)),.c (.i .i64 (bif R4 b n then 0 else 1))],h):=by
 have key:∀ g,∃ g',A8z 0 [.a (D3 b n m)] g=some (.t [.a (A5 (bif R4 b n then iR b n m else zeros 256)),.c (.i .i64 (bif R4 b n then 0 else 1))],g'):=by
  intro g;have hz:(A5 (zeros 256)).length=256:=by rw [A4];exact zeros_length
  have haf:D9 (E41 256 (Cell.i .u8 0)) []=some (E41 256 (Cell.i .u8 0)):=rfl;rw [I5] at haf;rw [C4w,I5];cases c:R4 b n with
  | false =>
   simp only [cond_false];generalize zeros 256=z at *;exact ⟨_,by simp only [esc,esh,Nat.reduceAdd,Nat.reduceMul,Nat.reduceLT,bG,c,haf,hz,Int.reduceEq]<;>rfl⟩
  | true =>
   simp only [cond_true];have e7:D9 [Cell.i .u8 0,.i .u8 0,.i .u8 0,.i .u8 0,.i .u8 0,.i .u8 0,.i .u8 0,.i .u8 0] [(0,1,.c (.i .u8 101)),(1,1,.c (.i .u8 115)),(2,1,.c (.i .u8 99)),(3,1,.c (.i .u8 104)),(4,1,.c (.i .u8 101)),(5,1,.c (.i .u8 97)),(6,1,.c (.i .u8 116)),(7,1,.c (.i .u8 49))]=some (A5 magicB):=rfl;have hmk:=D2t (h:=g++[rT (D3 b n m),rT (A5 (zeros 256)),rT (A5 magicB)]) (id:=g.length+2) (off:=0) (len:=8) (sz:=1) (cs:=A5 magicB) (by simp) (by omega);have ho:=B1s (h:=g++[rT (D3 b n m),rT (A5 (zeros 256)),rT (A5 magicB)]) (v:=sV (g.length+2) 0 8 1) (nv:=8) (data:=magicB) (Has.tr (by simp) (by simp [A4,magicB]) (F0 _)) (by decide);rw [C6Z (by decide)] at ho;have lm:magicB.length=8:=rfl;have w1:=λh=>X7 (h:=h) (l:=N9 256 magicB) (F7 (by decide)) (a:=8) (w:=2) (v:=b)
   have e1:=iG (l:=magicB) (a:=8) (w:=2) (v:=b) (by decide) (by omega) (by omega) (by omega);simp only [lm,E5K,show zeros 0=[] from rfl,E5t,E5y] at e1;simp only [e1] at w1;have l1:(magicB++A9 2 b).length=10:=by simp [lm]
   have w2:=λh=>X7 (h:=h) (l:=N9 256 (magicB++A9 2 b)) (F7 (by omega)) (a:=10) (w:=2) (v:=n)
   have e2:=iG (l:=magicB++A9 2 b) (a:=10) (w:=2) (v:=n) (by omega) (by omega) (by omega) (by omega);simp only [l1,E5K,show zeros 0=[] from rfl,E5t,E5y] at e2;simp only [e2] at w2;have l2:(magicB++A9 2 b++A9 2 n).length=12:=by simp [lm]
   have L0:(A5 (N9 256 magicB)).length=256:=by rw [A4,F7 (by decide)]
   have L1:(A5 (N9 256 (magicB++A9 2 b))).length=256:=by rw [A4,F7 (by omega)]
   have L2:(A5 (N9 256 (magicB++A9 2 b++A9 2 n))).length=256:=by rw [A4,F7 (by omega)]
   have L3:(A5 (N9 256 (bQ b n m))).length=256:=by rw [A4,F7 (by rw [R8];omega)]
   have L4:(A5 (iR b n m)).length=256:=by rw [A4,T2]
   have mk8:A1m (iV 8) (iV 8)=some 8:=rfl;have hp:=D4O (h:=g++[rT (D3 b n m),rT (A5 (zeros 256)),rT (A5 magicB),rT (A5 (N9 256 (magicB++A9 2 b++A9 2 n))),rT (A5 (zeros 8))]) (x:=sV (g.length+4) 0 8 1) (nv:=8) (l:=zeros 8) (a:=0) (w:=8) (v:=m) (Has.tr (by simp) (by simp [A4]) (F0 _)) (by simp);have ep:B7C (zeros 8) 0 8 m=some (A9 8 m):=by
    unfold B7C;rw [if_pos ⟨by omega,by decide⟩];unfold I6;simp [zeros]
   rw [ep] at hp;simp only [E5G,E5h,O7] at hp;have hl:=B4U (h:=g++[rT (D3 b n m),rT (A5 (zeros 256)),rT (A5 magicB),rT (A5 (N9 256 (magicB++A9 2 b++A9 2 n))),rT (A5 (zeros 8)),rT (A5 (A9 8 m))]) (v:=sV (g.length+5) 0 8 1) (nv:=8) (data:=A9 8 m) (l:=N9 256 (magicB++A9 2 b++A9 2 n)) (a:=12) (Has.tr (by simp) (by simp [A4]) (F0 _)) (F7 (by omega)) (by simp);have e3:=D8E (l:=magicB++A9 2 b++A9 2 n) (xs:=A9 8 m) (a:=12) (by omega) (by simp) (by omega);simp only [l2,E5K,show zeros 0=[] from rfl,E5t,E5y] at e3;rw [e3] at hl;have hc:=λh=>B4T (h:=h) (l:=N9 256 (bQ b n m)) (F7 (by rw [R8];omega)) (a:=0) (n:=20)
   have e4:bN (N9 256 (bQ b n m)) 0 20=bQ b n m:=by
    unfold bN N9;rw [if_pos (by omega)];simp only [Int.toNat_zero,E5k];exact List.take_left' R8
   simp only [e4,R8] at hc;have E16:=(Has.tr (h:=g++[rT (D3 b n m),rT (A5 (zeros 256)),rT (A5 magicB),rT (A5 (N9 256 (bQ b n m))),rT (A5 (zeros 8)),rT (A5 (A9 8 m)),rT (A5 (bQ b n m))]) (id:=g.length+6) (sz:=1) (n:=20) (cs:=A5 (bQ b n m)) (by simp) (by rw [A4,R8]) (F0 _)).str;have hmx:=λh=>D0c (s:=bQ b n m) (h:=h) (by rw [R8];omega)
   have E4g:=C3o (s:=bQ b n m);have e5:IntKind.wrap .i64 ((xT (bQ b n m):Nat):Int)=(xT (bQ b n m):Nat):=wrap_i64 (by omega) (by omega);have w3:=λh=>X7 (h:=h) (l:=N9 256 (bQ b n m)) (F7 (by rw [R8];omega)) (a:=20) (w:=4) (v:=(xT (bQ b n m):Nat))
   have e6:=iG (l:=bQ b n m) (a:=20) (w:=4) (v:=(xT (bQ b n m):Nat)) (by rw [R8];omega) (by omega) (by omega) (by omega);simp only [R8,E5K,show zeros 0=[] from rfl,E5t,E5y] at e6;simp only [e6] at w3;have eS:magicB++A9 2 b++A9 2 n++A9 8 m=bQ b n m:=rfl;rw [eS] at hl;have rz:=mP 8;change ∀ h,A59 [_,_,_,_] h=some (.a (A5 (iR b n m)),h) at w3;generalize iR b n m=SB at *;generalize N9 256 magicB=P0 at *;generalize N9 256 (magicB++A9 2 b)=P1 at *;generalize N9 256 (magicB++A9 2 b++A9 2 n)=P2 at *;generalize N9 256 (bQ b n m)=P3 at *;simp only [esc] at hp;generalize zeros 256=z at *;generalize zeros 8=z8 at *;exact ⟨_,by simp only [esc,esh,Nat.reduceAdd,Nat.reduceMul,Nat.reduceLT,bG,c,e7,hmk,ho,hz,L0,w1,L1,w2,L2,mk8,rz,hp,hl,L3,hc,E16,hmx,e5,w3,L4]<;>rfl⟩
 obtain ⟨g',e⟩:=key (ro h);exact B9n e (by simp)
theorem B6D {b:List UInt8} {a w:Nat} (hb:b.length=256) (h1:a+w<=256) (hw:1<=w) (hw4:w<=4):((atN b a w:Nat):Int)=fieldN b a w:=by
 unfold atN fieldN;rw [if_pos ⟨by omega,N2.2 (by omega)⟩];simp only [E5j]
theorem D8l {b:List UInt8} (hb:b.length=256):C6m (bN b 12 8) 0 8=some (le ((b.drop 12).take 8)):=by
 have hc:bN b 12 8=(b.drop 12).take 8:=by
  unfold bN;rw [if_pos (by omega)];rfl
 have hl:((b.drop 12).take 8).length=8:=by simp;omega
 unfold C6m;rw [hc,hl,if_pos ⟨by omega,by decide⟩];simp only [Int.toNat_zero,E5k];rw [E5b (by rw [hl];decide)]
def okS (b:List UInt8):Bool:=R4 (fieldN b 8 2) (fieldN b 10 2)&&decide (iR (fieldN b 8 2) (fieldN b 10 2) (fieldN b 12 8)=b)
def B9P (b:List UInt8):List Cell:=bif okS b then D3 (fieldN b 8 2) (fieldN b 10 2) (fieldN b 12 8) else D3 0 0 0
theorem zH (b:List UInt8):0<=fieldN b 12 8/\fieldN b 12 8<18446744073709551616:=by
 unfold fieldN;have h1:=C1F ((b.drop 12).take 8);have h2:((b.drop 12).take 8).length<=8:=by simp;omega
 have h3:=uH h2;have h4:(256:Nat) ^ 8=18446744073709551616:=by decide
 omega
theorem A6R {b:List UInt8} {h:A6} (hb:b.length=256):A9r [.a (A5 b)] h=some (.t [.a (B9P b),.c (.i .i64 (bif okS b then 0 else 13))],h):=by
 have key:∀ g,∃ g',A8y 0 [.a (A5 b)] g=some (.t [.a (B9P b),.c (.i .i64 (bif okS b then 0 else 13))],g'):=by
  intro g;have hl:(A5 b).length=256:=by rw [A4,hb]
  have hc:=B4T (h:=g++[rT (A5 b),rT (D3 0 0 0)]) hb (a:=12) (n:=8);have wL:(bN b 12 8).length=8:=by unfold bN;rw [if_pos (by omega)];simp;omega
  rw [wL] at hc;have hg:=D4N (h:=g++[rT (A5 b),rT (D3 0 0 0),rT (A5 (bN b 12 8))]) (v:=sV (g.length+2) 0 8 1) (nv:=8) (l:=bN b 12 8) (Has.tr (by simp) (by rw [A4,wL]) (F0 _)) (a:=0) (w:=8) (by rw [wL];omega);rw [D8l hb] at hg;simp only [E5G,E5h] at hg;have a1:=λh=>mK (h:=h) hb (a:=8) (w:=2)
  have a2:=λh=>mK (h:=h) hb (a:=10) (w:=2)
  have f1:=B6D (a:=8) (w:=2) hb (by omega) (by omega) (by omega);have f2:=B6D (a:=10) (w:=2) hb (by omega) (by omega) (by omega);simp only [E5y] at f1 f2;simp only [f1] at a1;simp only [f2] at a2;have e12:((le ((b.drop 12).take 8):Nat):Int)=fieldN b 12 8:=rfl;rw [e12] at hg;have ef:∀ x y z:Int,D9 (D3 0 0 0) [(0,1,iV x),(1,1,iV y),(2,1,.c (.i .u64 z))]=some (D3 x y z):=λ_ _ _=>rfl
  have ef0:D9 (D3 0 0 0) []=some (D3 0 0 0):=rfl;have hp:=λh=>B7O (b:=fieldN b 8 2) (n:=fieldN b 10 2) (m:=fieldN b 12 8) (h:=h) (zH b).1 (zH b).2
  have hz:(E41 256 (Cell.i .u8 0)).length=256:=E5r;have hS:(A5 (iR (fieldN b 8 2) (fieldN b 10 2) (fieldN b 12 8))).length=256:=by rw [A4,T2]
  have hZ:(A5 (zeros 256)).length=256:=by rw [A4];exact zeros_length
  have hq:=D5q (l:=iR (fieldN b 8 2) (fieldN b 10 2) (fieldN b 12 8)) (m:=b) (n:=256) T2 hb;simp only [esc] at hc;rw [C4v];unfold B9P okS;generalize E41 256 (Cell.i .u8 0)=z at *;cases c:R4 (fieldN b 8 2) (fieldN b 10 2) with
  | false =>
   simp only [c,cond_false] at hp;generalize zeros 256=zz at *;exact ⟨_,by simp only [esc,esh,Nat.reduceAdd,Nat.reduceMul,Nat.reduceLT,hl,hc,hg,a1,a2,ef,ef0,hp,hz,hZ,E48,Int.reduceEq]<;>rfl⟩
  | true =>
   simp only [c,cond_true] at hp;cases c2:decide (iR (fieldN b 8 2) (fieldN b 10 2) (fieldN b 12 8)=b) with
   | false =>
    rw [c2] at hq;exact ⟨_,by simp only [esc,esh,Nat.reduceAdd,Nat.reduceMul,Nat.reduceLT,hl,hc,hg,a1,a2,ef,ef0,hp,hz,hS,hq,E5Y]<;>rfl⟩
   | true =>
    rw [c2] at hq;exact ⟨_,by simp only [esc,esh,Nat.reduceAdd,Nat.reduceMul,Nat.reduceLT,hl,hc,hg,a1,a2,ef,ef0,hp,hz,hS,hq,Bool.and_true]<;>rfl⟩
 obtain ⟨g',e⟩:=key (ro h);refine B9m e ?_;unfold B9P;cases okS b<;>simp
end Go.Proofs.YtbnkgnfhgbhblaaGreat
namespace Go.Proofs.YtbnkgnfhgbhblaaGreat
open Go Go.Esc
set_option maxRecDepth 100000
noncomputable section
variable (n m m2:Nat) (a0 a1 a2 x2 x3 x6 x7 x8:Val) (h:A6)
def uN:FD Tryz.prog:=⟨px 0X11b01880682161f1b7c64c8496187c004961a7c01b119432320170301213432322461b1e2a828889641e7f01e3601617c0061a02201370301213012,[.c (.i .u8 0),.c (.b false),.c (.b true),.c (.i .u8 1)],[],[.tmp 2,.tmp 3,.tmp 4],[]⟩
def B2d:=uN.R
def B7Z:=mR B2d uN (tT []) n [a0] h
def B1V:=uN.K Tryz.func191
def A27:=uN.S
theorem B8t:SOk Tryz.prog 191 A27:=B1V.sok
theorem B3F:E5 B2d A27:=B1V.flat
def lC:FD Tryz.prog:=⟨px 0X12384881de1c48849392612621fa2e1c148828c61a287c5e061c67a148828c4e281718621fa2e1c148828c61a1d7c48061c61c148828c3c3b1718241d8391183a123918763520241c82e162bc7a2f132e187632620563201a7c07806c7122e6812a6801e1d69681a16101ac41b11919187632621c62d9032ed2632142,[],[],[.cellN 6 256],[cal B8t]⟩
def A5k:=lC.R
def C8u:AtH:=lC.lj 0 n [] [x3,x6]
def B6r:=tT [⟨1,2,C8u⟩]
def C1Y:=mR A5k lC B6r n [a0,a1,a2] h
def B9D:=mJ lC B6r 0 n [] [x3,x6] h
def B5d:=lC.K Tryz.func122
def A5E:=lC.S
theorem C2p:SOk Tryz.prog 122 A5E:=B5d.sok
theorem B5Z:E5 A5k A5E:=B5d.flat
def lA:FD Tryz.prog:=⟨px 0X127a4881de6e488283922127c18153e07c21825e4881de361a301ac4a04e4881c394185c5161c1a2a11983187653262151876325307024187632531a617c11918763262187632506051061c806131876325232231c2d81320321c22d912022,[.c (.b true)],[],[.cellN 2 256],[cal C2p]⟩
def A5j:=lA.R
def B2x:AtH:=lA.lj 0 n [m] [x2,x3,x6,x7,x8]
def B6q:=tT [⟨2,5,B2x⟩]
def C1X:=mR A5j lA B6q n [a0] h
def A4n:=mL lA B6q 0 n [m] [x2,x3,x6,x7,x8] h
def B5c:=lA.K Tryz.func57
def A5D:=lA.S
theorem A65:SOk Tryz.prog 57 A5D:=B5c.sok
theorem B5Y:E5 A5j A5D:=B5c.flat
end
noncomputable section
variable (n m m2:Nat) (a0 x1 x2 x3 x4 x6 x7 x8 x17 x33 x34 x44 x45:Val) (h:A6)
def uU:FD Tryz.prog:=⟨px 0X14821361e2a87ffffd6191b7f01b3601647c0072123211012,[.c (.b false)],[],[.tmp 2],[]⟩
def B2g:=uU.R
def B8h:=mR B2g uU (tT []) n [a0] h
def B17:=uU.K Tryz.func247
def A3l:=uU.S
theorem B88:SOk Tryz.prog 247 A3l:=B17.sok
theorem B4g:E5 B2g A3l:=B17.flat
def bT:FD Tryz.prog:=⟨px 0X121871de1c7382212621fa397e1728c61c1a4284d432227c18153e07c218621fa1a5e1728c4a04a1c14185c058411e2a64981a0418754321721518732153070241873215339617c11918732162187321506051066384464d31873215232133392d8132132392d862ec22122,[],[],[.cellN 2 7],[]⟩
def xE:=bT.R
def A4O:AtH:=bT.lj 0 n [m] [x1,x2,x3,x7,x8]
def A7e:=tT [⟨2,5,A4O⟩]
def B3y:=mR xE bT A7e n [a0] h
def yD:=mL bT A7e 0 n [m] [x1,x2,x3,x7,x8] h
def A60:=bT.K Tryz.func125
def xK:=bT.S
theorem A0L:SOk Tryz.prog 125 xK:=A60.sok
theorem A9h:E5 xE xK:=A60.flat
def gZ:FD Tryz.prog:=⟨px 0X1121121239c5d153a06b7d2180152112122462bc6101ac2868136a5d5c322fc411a1e749825d5c432155d5c23070245d5c233d617c15e5d5c325d5c20605106111ac41b5b3935d5c220301521121224632a2a849c8896519c7f619c1f2419c4f60632a2a816118a7f618a1f2418a4f60632e2a866e2bf6106e1af66e1f346e4f6062bc6101ac61c142f4d2c5a12211301521121224634e2a8762a3a2ab04b68b03b4b3eb41b4b3b63a31623a7f63a1f043a4f60632a2a81965287f6281f04284f601617c61c0454d2a2e1221131062ec2112,[.c (.b true),.c (.b false)],[.eqA true ([.i .i64,.i .i64,.i .i64,.i .i64,.i .i64,.i .i64,.i .i64,.i .i64,.i .i64,.i .i64,.i .i64]) (.t 18) (.t 19)],[.tmp 2],[cal B88,cal A0L]⟩
def A2S:=gZ.R
def B0w:AtH:=gZ.lj 0 n [m] [x44,x45]
def B2s:=tT [⟨2,2,B0w⟩]
def B8f:=mR A2S gZ B2s n [a0] h
def A2p:=mL gZ B2s 0 n [m] [x44,x45] h
def B15:=gZ.K Tryz.func230
def A3j:=gZ.S
theorem B84:SOk Tryz.prog 230 A3j:=B15.sok
theorem B4e:E5 A2S A3j:=B15.flat
def fF:FD Tryz.prog:=⟨px 0X1131218481de28486e39332223ac5d154a07c218621fa2a2814828c61c638148828c4c04c6816182fc1911a025d1964252355d64243270245d64243289617c15e5d642525d6424162515d115d6424242232e84a155a07c2182384881de6191a2e411ac48065907c61967c3c0384884e397182ac02a8711e2a74981a044a4918764272154a4964253070244a49642533d617c14b4a49642624a4964250605106121ac41b3834a4964252642332384881de619491e411ac61c344c384883856421422384881de629291e411ac61c244c384883856421422384881de619191e411ac61c144c7a48838564214226e4881de6511e411ac61c044c5a488283956421421c62d91642142017c3166e481de5a05a483843222241637c3e1c121d5421525c516101ac41b1a393542142421331d2d8142132101d2d862ec32122,[],[],[.cellN 2 32,.tmp 3],[cal B84,cal vB,cal A0L]⟩
def A8t:=fF.R
def B7d:AtH:=fF.lj 0 n [m] [x2,x4,x6,x33,x34]
def B7e:AtH:=fF.lj 1 n [m] [x2,x4,x6,x45]
def A9F:=tT [⟨2,5,B7d⟩,⟨2,4,B7e⟩]
def C4n:=mR A8t fF A9F n [a0] h
def A7C:=mL fF A9F 0 n [m] [x2,x4,x6,x33,x34] h
def A7D:=mL fF A9F 1 n [m] [x2,x4,x6,x45] h
def C0s:=fF.K Tryz.func189
def A9i:=fF.S
theorem A9j:SOk Tryz.prog 189 A9i:=C0s.sok
theorem B87:E5 A8t A9i:=C0s.flat
def oK:FD Tryz.prog:=⟨px 0X12181b1de281b382212621fa1a284c191b96311ac1c4883d39442221e829155e07c2181a21fa3e61628c4284c1962a311ac65907c61967c2c01c488387e2c1191819c511a022954325215294324307024294324339617c12a294325229432406051291129432424323318821b1de13b042df6131e122e113e1043b3e819496311ac5e4883829296311ac4e4883819196311ac3e48838516311ac2e48818391a119432333c24881de1c32d96101ac06689432223b2d862ec22122,[],[.slA 32 1 (.t 1) none none],[.cellN 2 11],[cal A11,cal vU]⟩
def A8s:=oK.R
def B7b:AtH:=oK.lj 0 n [m] [x2,x3,x4,x17]
def C0Y:=tT [⟨2,4,B7b⟩]
def C4m:=mR A8s oK C0Y n [a0] h
def A7B:=mL oK C0Y 0 n [m] [x2,x3,x4,x17] h
def C0r:=oK.K Tryz.func200
def A9g:=oK.S
theorem C45:SOk Tryz.prog 200 A9g:=C0r.sok
theorem B86:E5 A8s A9g:=C0r.flat
def uT:FD Tryz.prog:=⟨px 0X17312181b1de281b2e3933222013312181b1de03b3e83322224672a2a804868b448483b6a48483b601637c4a1e172c42326c0682481de1d52d912a6801e1c695c1916111ac3a1b1a3918654215242234821b1de3b42d96101ac448739442132303b2d862ec32122,[.c (.b false),.c (.b true)],[.eqA true (E41 32 (.i .u8)) (.t 17) (.t 18)],[.cellN 2 11,.tmp 3],[cal C45,cal A9j]⟩
def A2T:=uT.R
def B8g:=mR A2T uT (tT []) n [a0] h
def B16:=uT.K Tryz.func144
def A3k:=uT.S
theorem B85:SOk Tryz.prog 144 A3k:=B16.sok
theorem B4f:E5 A2T A3k:=B16.flat
def pM:FD Tryz.prog:=⟨px 0X16821288961a7c5677c2889607c019152120118b921121224486149c889657c0713602211211212242c315617c04133022050131211012,[],[],[.tmp 2],[]⟩
def A8r:=pM.R
def B5O:=mR A8r pM (tT []) n [a0] h
def A78:=pM.K Tryz.func94
def A0K:=pM.S
theorem B6g:SOk Tryz.prog 94 A0K:=A78.sok
theorem B1M:E5 A8r A0K:=A78.flat
end
noncomputable section
variable (n m m2:Nat) (a0 a1 x2 x3 x4 x12 x13 x14:Val) (h:A6)
def uW:FD Tryz.prog:=⟨px 0X11211212011921121224633a2a861e54c7f6288974c7f1c4c364c1f044c4f60632a2a81613a7f63a1f043a4f60631e2a82889652a7f3e2a3605617c2a712a381203383161c861c1444d431221062ec2112,[.c (.b true)],[],[.tmp 2],[]⟩
def A2V:=uW.R
def B8n:=mR A2V uW (tT []) n [a0] h
def B19:=uW.K Tryz.func190
def A3n:=uW.S
theorem B9i:SOk Tryz.prog 190 A3n:=B19.sok
theorem B4j:E5 A2V A3n:=B19.flat
def oN:FD Tryz.prog:=⟨px 0X12284881de184883a3924121cc1e155e07c218621fa1a18148828c38061a07c2c061c01c2b4d71819801885161c1e2e11981a051e1d1c65432182151e1d1c43263070241e1d1c432631a617c11f1e1d1c432721e1d1c432606051061c861c14a4c41e1d1c4326242230123a4881de4a488382412241637c6101ac2a273931943242432331c2d842ec022ed343232,[],[],[.cellN 4 256],[cal B9i]⟩
def A8w:=oN.R
def B7A:AtH:=oN.lj 0 n [m] [x2,x3,x4,x12,x13,x14]
def C00:=tT [⟨2,6,B7A⟩]
def C4u:=mR A8w oN C00 n [a0,a1] h
def A7I:=mL oN C00 0 n [m] [x2,x3,x4,x12,x13,x14] h
def C0x:=oN.K Tryz.func121
def A9p:=oN.S
theorem A9q:SOk Tryz.prog 121 A9p:=C0x.sok
theorem B9j:E5 A8w A9p:=C0x.flat
end
noncomputable section
variable (n m m2:Nat) (a0 a1 a2 x1 x2 x4 x5 x14:Val) (h:A6)
def uY:FD Tryz.prog:=⟨px 0X115122821de6112a1022d3e861a13cc068800013fc289667c0381185422011bc5162821de3c002d3e845422241637c6e2c122d7640526403319c01982481de1d62d912a6801e2a6918c1f16101ac6e1b28391876404201195125a21de02d3e83542224631e2a849642c7f02c3601617c018161d4304243033102d2d8432ed343032,[.c (.b true)],[.slA 32 1 (.t 6) none none],[.cellN 4 2,.tmp 5],[cal A9j]⟩
def A2Y:=uY.R
def B8q:=mR A2Y uY (tT []) n [a0,a1] h
def B2c:=uY.K Tryz.func120
def A3s:=uY.S
theorem B9p:SOk Tryz.prog 120 A3s:=B2c.sok
theorem B4l:D5o A2Y A3s:=B2c.tidy
def yS:FD Tryz.prog:=⟨px 0X11712384881de61a211ac6e2381c4882c39576220119c7166e4881de5a07e4883847622241637c3e281229191863521863337c078221de2d182d912e6802a1e696c1a161a201ac3e1b3841b11919186342101c2d81e52ed032ed4653142,[],[],[.cellN 6 256,.tmp 7],[cal B9p,cal A9q]⟩
def A5z:=yS.R
def C2m:=mR A5z yS (tT []) n [a0,a1,a2] h
def B5A:=yS.K Tryz.func55
def yX:=yS.S
theorem A7c:SOk Tryz.prog 55 yX:=B5A.sok
theorem B6o:E5 A5z yX:=B5A.flat
def oO:FD Tryz.prog:=⟨px 0X1228481de2c483a3924121cc1e155e07c218621fa3e2c14828c61c618148828c61a07c7a0289667c405e2911918188611a021e6542162151e542153070241e542153289617c11f1e5421621e5421506051011e54215254230124e481de4a4838241224631e2a849642a7f42a3601617c47161c5421525421431d2d815421421d42d9022ed242132,[.c (.b true)],[],[.cellN 4 32],[]⟩
def A8B:=oO.R
def B7P:AtH:=oO.lj 0 n [m] [x1,x2,x4,x5,x14]
def C01:=tT [⟨2,5,B7P⟩]
def C4y:=mR A8B oO C01 n [a0,a1] h
def A7N:=mL oO C01 0 n [m] [x1,x2,x4,x5,x14] h
def C0B:=oO.K Tryz.func145
def A9w:=oO.S
theorem C5f:SOk Tryz.prog 145 A9w:=C0B.sok
theorem B9q:E5 A8B A9w:=C0B.flat
def A1E:FD Tryz.prog:=⟨px 0X11985167a1b1de11a6806686111ac61a201ac405e4881d391854220135124a1b1de03b3e83542224671e2a84964287f4283601617c4061b4214242133303b42d9022ed342132,[.c (.b false),.c (.b true)],[],[.cellN 4 11,.tmp 5],[cal C5f,cal B85]⟩
def A8A:=A1E.R
def C4x:=mR A8A A1E (tT []) n [a0,a1] h
def C0A:=A1E.K Tryz.func77
def A9v:=A1E.S
theorem C5e:SOk Tryz.prog 77 A9v:=C0A.sok
theorem B9o:E5 A8A A9v:=C0A.flat
end
noncomputable section
variable (n m m2:Nat) (a0 a1 x1 x3 x14 x15:Val) (h:A6)
def B1a:FD Tryz.prog:=⟨px 0X113121841de6131a3022e3e8381595d82833f39532221f821fa262d961a4883cc000004883c3fd564232016d3121841de02e3e83322224633a2a861e3587f6581cb05836581f028584f601637c6e2a1193a420424203318c0188231de2a42d913a6802e28697c1b16101ac6488381648819801c11a542042016d3124a41de02e3e833222241627c61c807131920322023102e22d922022,[.c (.b true)],[],[.cellN 2 4,.tmp 3],[cal A9s]⟩
def C9q:=B1a.R
def yU:=mR C9q B1a (tT []) n [a0] h
def C9j:=B1a.K Tryz.func12
def zZ:=B1a.Q
theorem B6p:SOk Tryz.prog 12 zZ:=C9j.ok
theorem yY:OfT C9q zZ:=C9j.of
def iY:FD Tryz.prog:=⟨px 0X119841363a2a862a1397f6391f06394f06a394f439360361e2a8164297f429360068861c31e4c1f412341022ed22122,[.c (.b false)],[.eqN true true (.t 6)],[.tmp 4],[]⟩
def pU:=iY.R
def A8E:=mR pU iY (tT []) n [a0,a1] h
def A1P:=iY.K Tryz.func146
def qI:=iY.S
theorem A9y:SOk Tryz.prog 146 qI:=A1P.sok
theorem A6b:E5 pU qI:=A1P.flat
def A1F:FD Tryz.prog:=⟨px 0X122a4881de64883861a4881980041c53121c32d9131032,[],[],[.cellN 3 256],[]⟩
def A8C:=A1F.R
def C4z:=mR A8C A1F (tT []) n [a0,a1] h
def C0C:=A1F.K Tryz.func41
def A12:=A1F.S
theorem C5g:SOk Tryz.prog 41 A12:=C0C.sok
theorem B9r:E5 A8C A12:=C0C.flat
def S9:FD Tryz.prog:=⟨px 0X124e4881de611a5ec4061c34a4c54120122e4881de01c3e824122462bc61a201ac401e43841842142421331c42d9022ed242132,[],[],[.cellN 4 256],[cal A9y,cal C5g]⟩
def dU:=S9.R
def oC:N4:=S9.E
def A4f:TT:=⟨oC,[]⟩
def A0x:=mR dU S9 A4f n [a0,a1] h
def oP:=S9.K Tryz.func78
def dW:=S9.S
theorem J7:SOk Tryz.prog 78 dW:=oP.sok
theorem xL:E5 dU dW:=oP.flat
def iX:FD Tryz.prog:=⟨px 0X12281b1de481b3d3924121e801dc21b1de3b182d913e6803a3b691d82d161a221ac38061a211ac2c01842e391b18422012281b1de03b3e824122462bc5e2a122b65425265424318c018807c5123e6813a6802e1f69781a161a201ac40633804e1b4d1b76542523b42d9022ed242132,[],[],[.cellN 4 11],[cal A69,cal J7,cal C5e]⟩
def iZ:=iX.R
def vQ:=mR iZ iX (tT []) n [a0,a1] h
def A1O:=iX.K Tryz.func35
def jD:=iX.S
theorem cG:SOk Tryz.prog 35 jD:=A1O.sok
theorem qH:E5 iZ jD:=A1O.flat
def Y1:FD Tryz.prog:=⟨px 0X11cc211c39122121c81f154e07c218624881de2a2e48819861a211ac28044387e07e2a171818c411a021f1e43152151f1e3143070241f1e31431a617c1281f1e31521f1e31406051061c85a1d131f1e31423136831664881c5bc61c064c04194d531220148823b91212241637c6101ac63380454d4181221134883b862ec2112,[],[],[.tmp 2],[cal mB,cal J7]⟩
def pT:=Y1.R
def A1j:AtH:=Y1.lj 0 n [m] [x1,x3,x14,x15]
def A16:=tT [⟨2,4,A1j⟩]
def A8D:=mR pT Y1 A16 n [a0] h
def sM:=mL Y1 A16 0 n [m] [x1,x3,x14,x15] h
def A1N:=Y1.K Tryz.func51
def qG:=Y1.S
theorem A9x:SOk Tryz.prog 51 qG:=A1N.sok
theorem A7U:pE pT qG:=A1N.out
end
end Go.Proofs.YtbnkgnfhgbhblaaGreat
namespace Go.Proofs.YtbnkgnfhgbhblaaGreat
open Go Go.Esc
section
def IsView (h:A6) (f:Cell) (D:Dev):Prop:=∃ r q rw rw',f=.f 41 [(r,0)]/\rd h r=some ⟨[.sl q 0 D.length 256],rw⟩/\rd h q=some ⟨D1 D,rw'⟩
theorem IsView.ro {h:A6} {f:Cell} {D:Dev} (hv:IsView h f D):IsView (ro h) f D:=by
 obtain ⟨r,q,rw,rw',e,h1,h2⟩:=hv;exact ⟨r,q,false,false,e,B7F h1 rfl,B7F h2 (dJ D)⟩
theorem IsView.more {h:A6} {f:Cell} {D:Dev} (hv:IsView h f D) (l:A6):IsView (h++l) f D:=by
 obtain ⟨r,q,rw,rw',e,h1,h2⟩:=hv;exact ⟨r,q,rw,rw',e,B6 h1,B6 h2⟩
theorem IsView.since {g h:A6} {f:Cell} {D:Dev} (hv:IsView g f D) (h1:Low g.length g h):IsView h f D:=by
 obtain ⟨r,q,rw,rw',e,h2,h3⟩:=hv;exact ⟨r,q,rw,rw',e,h1.rd h2,h1.rd h3⟩
theorem IsView.get {h:A6} {f:Cell} {D:Dev} (hv:IsView h f D):∃ id cs,f=.f id cs:=by
 obtain ⟨r,q,rw,rw',e,_⟩:=hv;exact ⟨_,_,e⟩
def vwC (b n m:Int) (f:Cell):List Cell:=[.i .i64 b,.i .i64 n,.i .u64 m,f]
section
variable {D:Dev} {n m:Int} {f:Cell}
theorem D35 {b:Int}:ldN (rT (vwC b n m f)) 0 3=some (.a (D3 b n m)):=rfl
theorem E1q {b:Int}:ldN (rT (vwC b n m f)) 0 4=some (.a (vwC b n m f)):=rfl
end
theorem D19 {h:A6} {r q:Nat} {rw rw':Bool} {D:Dev} {no:Nat} (hD:okD D) (bM:no<D.length) (h1:rd h r=some ⟨[.sl q 0 D.length 256],rw⟩) (h2:rd h q=some ⟨D1 D,rw'⟩) :
  A12 [iV (no:Int),pV r 0] h=some (.a (A5 D[no]),h):=by
 have key:∀ g rw rw',rd g r=some ⟨[.sl q 0 D.length 256],rw⟩->rd g q=some ⟨D1 D,rw'⟩->∃ g',A8C 0 [iV (no:Int),pV r 0] g=some (.a (A5 D[no]),g'):=by
  intro g rw rw' h1 h2;have hz:(E41 256 (Cell.i .u8 0)).length=256:=E5r;have hB:(A5 D[no]).length=256:=by rw [A4,hD.at bM]
  have l1:B4 (g++[rT (E41 256 (.i .u8 0))]) (pV r 0)=some (sV q 0 D.length 256):=B5 (cs:=[.sl q 0 D.length 256]) (B6 h1) rfl (by cases rw<;>rfl);have a1:D5 256 (sV q 0 D.length 256) (iV (no:Int))=some (pV q (0+no*256)):=C4 bM;have l2:C8 (g++[rT (E41 256 (.i .u8 0))]) 256 (pV q (0+no*256))=some (.a (A5 D[no])):=by
   rw [cP (cs:=D1 D) (rw:=rw') (B6 h2) (by rw [I3 hD];omega) (by
    rw [E5l,bW hD bM,F0];simp),E5l,bW hD bM]
  rw [E5l] at a1 l2;rw [C4z];generalize E41 256 (Cell.i .u8 0)=z at *;generalize A5 D[no]=y at *;exact ⟨_,by simp only [esc,esh,Nat.reduceAdd,Nat.reduceMul,Nat.reduceLT,l1,a1,l2,hz,hB]<;>rfl⟩
 obtain ⟨g',e⟩:=key (ro h) false false (B7F h1 rfl) (B7F h2 (dJ D));exact B9r e (by simp [Val.flat])
theorem C82 {b n m no:Int} {f:Nat} {cs:List (Nat × Nat)} {h:A6}:qI [.a (vwC b n m (.f f cs)),iV no] h=some (bV (decide (0<=no)&&decide (no<b)),h):=by
 have key:∀ g,∃ g',pU 0 [.a (vwC b n m (.f f cs)),iV no] g=some (bV (decide (0<=no)&&decide (no<b)),g'):=by
  intro g;rw [A8E];unfold vwC;by_cases c1:0<=no
  ·exact ⟨_,by simp only [esc,esh,Nat.reduceAdd,Nat.reduceMul,Nat.reduceLT,c1]<;>rfl⟩
  ·exact ⟨_,by simp only [esc,esh,Nat.reduceAdd,Nat.reduceMul,Nat.reduceLT,c1,E48]<;>rfl⟩
 obtain ⟨g',e⟩:=key (ro h);exact A6b e rfl
theorem dL {n m no:Int} {f:Cell} {D:Dev} {h:A6} (hD:okD D) (hv:IsView h f D):dW [.a (vwC D.length n m f),iV no] h=some (.a (A5 (blk D no)),h):=by
 have key:∀ g,IsView g f D->∃ g',dU 0 [.a (vwC D.length n m f),iV no] g=some (.a (A5 (blk D no)),g'):=by
  intro g hv;have hz:(A5 (zeros 256)).length=256:=by rw [A4];exact zeros_length
  have hB:(A5 (blk D no)).length=256:=by rw [A4,O2 hD]
  obtain ⟨r,q,rw',rw'',rfl,h1,h2⟩:=hv;have hT:=λh=>C82 (b:=D.length) (n:=n) (m:=m) (no:=no) (f:=41) (cs:=[(r,0)]) (h:=h)
  have hcv:∀ (x:Val) (h:A6),A2a oC (.c (.f 41 [(r,0)])) [x] h=A12 [x,pV r 0] h:=λ_ _=>Eq.trans rfl rfl
  rw [A0x,I5];by_cases c1:0<=no/\no<D.length
  ·have c2:=c1.1;have c3:=c1.2;obtain ⟨k,rfl⟩:∃ k:Nat,no=k:=⟨no.toNat,by omega⟩;have e1:=B9y (D:=D) (i:=k) (by omega);have hO:=D19 (h:=g++[rT (vwC D.length n m (.f 41 [(r,0)])),rT (A5 (zeros 256))]) hD (show k<D.length by omega) (B6 h1) (B6 h2);rw [<-e1] at hO;simp only [c2,c3,decide_true,Bool.and_self] at hT;generalize A5 (zeros 256)=z at *;generalize A5 (blk D k)=y at *;unfold vwC at *;exact ⟨_,by simp only [esc,esh,Nat.reduceAdd,Nat.reduceMul,Nat.reduceLT,hT,hcv,hO,hz,hB]<;>rfl⟩
  ·have e1:=D2J (D:=D) (i:=no) (by omega);have ht:(decide (0<=no)&&decide (no<(D.length:Int)))=false:=by
    rw [Bool.and_eq_false_iff,decide_eq_false_iff_not,decide_eq_false_iff_not];omega
   simp only [ht] at hT;rw [e1] at hB ⊢;have ef:D9 (A5 (zeros 256)) []=some (A5 (zeros 256)):=rfl;generalize A5 (zeros 256)=z at *;unfold vwC at *;exact ⟨_,by simp only [esc,esh,Nat.reduceAdd,Nat.reduceMul,Nat.reduceLT,hT,ef,hz]<;>rfl⟩
 obtain ⟨g',e⟩:=key (ro h) hv.ro;exact xL e (by simp [Val.flat])
theorem D9S {h:A6} {id m sz:Nat} {ys:List Cell} {y:Val} (hr:rd h id=rT []) (hy:Has h y sz m ys) (hsz:0<sz) (hn:m<=1073741824) :
  jK h sz (sV id 0 0 sz) y=some (sV h.length 0 m sz,h.set id none++[rT ys]):=by
 have h1:=hy.add;have h2:ys.length/sz=m:=by rw [hy.length];exact Nat.mul_div_cancel m hsz
 simp only [jK,h1,hr,E49,h2,E5g,E5l];rw [if_pos ⟨trivial,trivial,by simp,trivial,hn⟩]
def A90 (D:Dev):Bool:=okS (D.headD [])&&decide (fieldN (D.headD []) 8 2=D.length)
def D1g (D:Dev):Int:=fieldN (D.headD []) 10 2
def D2Y (D:Dev):Int:=fieldN (D.headD []) 12 8
theorem D34 {v:Val} {h:A6} (hv:Has h v 256 0 []):∃ t,zZ [v] h=some (.t [.a (vwC 0 0 0 .nf),.c (.i .i64 13)],h++t):=by
 have ef:D9 [o0,o0,.i .u64 0,.nf] []=some [o0,o0,.i .u64 0,.nf]:=rfl;have hl:=hv.len;rw [show ((0:Nat):Int)=0 from rfl] at hl;exact ⟨_,yY (n:=0) (by rw [yU];simp only [esc,esh,Nat.reduceAdd,Nat.reduceMul,Nat.reduceLT,hl,ef,vwC]<;>rfl)⟩
theorem D5N {b:List UInt8} (h:okS b=false):B9P b=D3 0 0 0:=by unfold B9P;rw [h];rfl
theorem D1A {b:List UInt8} (h:okS b=true):B9P b=D3 (fieldN b 8 2) (fieldN b 10 2) (fieldN b 12 8):=by unfold B9P;rw [h];rfl
theorem D5i {v:Val} {D:Dev} {h:A6} (hv:Has h v 256 D.length (D1 D)) (hD:okD D) (h0:0<D.length) (hn:A90 D=false):∃ t,zZ [v] h=some (.t [.a (vwC 0 0 0 .nf),.c (.i .i64 13)],h++t):=by
 have ef:D9 [o0,o0,.i .u64 0,.nf] []=some [o0,o0,.i .u64 0,.nf]:=rfl;have hl:=hv.len;have hv2:=hv.more [rT [o0,o0,.i .u64 0,.nf]];obtain ⟨b,E,rfl⟩:∃ b E,D=b::E:=by cases D with | nil=>simp at h0 | cons b E=>exact ⟨b,E,rfl⟩
 obtain ⟨id,off,rfl,hid,_,hB⟩:=hv2.sl h0;have hBl:(A5 b).length=256:=by rw [A4,hD.cons.1]
 have l2:=hB 0 256 (by rw [I3 hD];omega);have ec:((D1 (b::E)).drop 0).take 256=A5 b:=by
  have:=bW (i:=0) hD h0
  rwa [Nat.zero_mul] at this
 rw [ec,Nat.add_zero] at l2;have a1:D5 256 (sV id off (b::E).length 256) (iV 0)=some (pV id off):=by
  have:=C4 (k:=.i64) (id:=id) (off:=off) (sz:=256) (j:=0) (len:=(b::E).length) h0
  rwa [Nat.zero_mul,Nat.add_zero] at this
 have hG:=λh=>A6R (h:=h) hD.cons.1
 have c0:¬ (((b::E).length:Nat):Int)=0:=by omega
 have n13:¬ (13:Int)=0:=by decide
 unfold A90 at hn;simp only [List.headD_cons] at hn;cases ho:okS b with
 | false =>
  simp only [ho,D5N ho,cond_false] at hG;refine ⟨[rT [o0,o0,.i .u64 0,.nf],rT [o0,o0,.i .u64 0]],yY (n:=0) ?_⟩;rw [yU];generalize (b::E).length=N at *;generalize A5 b=y at *;unfold D3 at *;simp only [esc,esh,Nat.reduceAdd,Nat.reduceMul,Nat.reduceLT,ef,vwC,l2,a1,hG,n13,eq_self,c0]<;>rfl
 | true =>
  rw [ho,E5d] at hn
  replace hn:=of_decide_eq_false hn
  simp only [ho,D1A ho,cond_true] at hG;refine ⟨[rT [o0,o0,.i .u64 0,.nf],rT [.i .i64 (fieldN b 8 2),.i .i64 (fieldN b 10 2),.i .u64 (fieldN b 12 8)]],yY (n:=0) ?_⟩;rw [yU];generalize (b::E).length=N at *;generalize A5 b=y at *;generalize fieldN b 8 2=n1 at *;unfold D3 at *;simp only [esc,esh,Nat.reduceAdd,Nat.reduceMul,Nat.reduceLT,ef,vwC,l2,a1,hG,n13,eq_self,c0,hn]<;>rfl
theorem D33 {v:Val} {D:Dev} {h:A6} (hv:Has h v 256 D.length (D1 D)) (hD:okD D) (hn:A90 D=false):∃ t,zZ [v] h=some (.t [.a (vwC 0 0 0 .nf),.c (.i .i64 13)],h++t):=by
 by_cases h0:D=[]
 ·subst h0;exact D34 hv
 ·exact D5i hv hD (List.length_pos_iff.2 h0) hn
theorem C7D {v:Val} {D:Dev} {h:A6} (hv:Has h v 256 D.length (D1 D)) (hD:okD D) (hn:A90 D=true) (h60:D.length<=1073741824) :
  ∃ f t,zZ [v] h=some (.t [.a (vwC D.length (D1g D) (D2Y D) f),.c o0],h++t)/\IsView (h++t) f D:=by
 obtain ⟨b,E,rfl⟩:∃ b E,D=b::E:=by
  cases D with
  | nil=>simp only [A90,List.headD_nil,E5u,E42,decide_eq_true_eq] at hn;exact absurd hn.1 (by decide)
  | cons b E=>exact ⟨b,E,rfl⟩
 have h0:0<(b::E).length:=by simp
 have hv2:=hv.more [rT [o0,o0,.i .u64 0,.nf]];unfold A90 at hn;simp only [List.headD_cons,E42,decide_eq_true_eq] at hn;have ho:=hn.1;have hn2:=of_decide_eq_true hn.2;have hv3:=hv.more [rT [o0,o0,.i .u64 0,.nf],rT (D3 (b::E).length (fieldN b 10 2) (fieldN b 12 8)),rT []];obtain ⟨id,off,rfl,hid,_,hB⟩:=hv2.sl h0;have hBl:(A5 b).length=256:=by rw [A4,hD.cons.1]
 have l2:=hB 0 256 (by rw [I3 hD];omega);have ec:((D1 (b::E)).drop 0).take 256=A5 b:=by
  have:=bW (i:=0) hD h0
  rwa [Nat.zero_mul] at this
 rw [ec,Nat.add_zero] at l2;have a1:D5 256 (sV id off (b::E).length 256) (iV 0)=some (pV id off):=by
  have:=C4 (k:=.i64) (id:=id) (off:=off) (sz:=256) (j:=0) (len:=(b::E).length) h0
  rwa [Nat.zero_mul,Nat.add_zero] at this
 have hG:=λh=>A6R (h:=h) hD.cons.1
 have c0:¬ (((b::E).length:Nat):Int)=0:=by omega
 have n13:¬ (13:Int)=0:=by decide
 simp only [ho,D1A ho,cond_true,hn2] at hG;have eN:D1g (b::E)=fieldN b 10 2:=rfl;have eM:D2Y (b::E)=fieldN b 12 8:=rfl;have hA:=D9S (id:=h.length+2) (by simp) hv3 (by omega) h60;have ef1:D9 ([]:List Cell) []=some []:=rfl;have U8:id<h.length:=by
  rcases hv with ⟨e,_⟩ | ⟨i,o,r,e,hr,_⟩
  ·cases e
  ·cases e;exact C5 hr
 rw [eN,eM];unfold IsView;generalize D1 (b::E)=C at *;have emk:B4t 41 [pV (h.length+4) 0]=some (.c (.f 41 [(h.length+4,0)])):=rfl;refine ⟨.f 41 [(h.length+4,0)],[rT (vwC (b::E).length (fieldN b 10 2) (fieldN b 12 8) (.f 41 [(h.length+4,0)])),rT (D3 (b::E).length (fieldN b 10 2) (fieldN b 12 8)),none,rT C,rT [.sl (h.length+3) 0 (b::E).length 256]],yY (n:=0) ?_,h.length+4,h.length+3,true,true,rfl,K0,K0⟩;rw [yU];generalize (b::E).length=N at *;generalize A5 b=y at *;generalize fieldN b 10 2=n1 at *;generalize fieldN b 12 8=n2 at *;have ef2:∀ x,D9 [o0,o0,.i .u64 0,.nf] [(0,3,.a [.i .i64 (N:Int),.i .i64 n1,.i .u64 n2]),(3,1,.c x)]=some [.i .i64 (N:Int),.i .i64 n1,.i .u64 n2,x]:=λ_=>rfl
 unfold D3 vwC at *;simp only [esc,esh,Nat.reduceAdd,Nat.reduceMul,Nat.reduceLT] at hA;simp only [esc,esh,Nat.reduceAdd,Nat.reduceMul,Nat.reduceLT,l2,a1,hG,n13,eq_self,c0,hA,ef1,ef2,emk]<;>rfl
end
end Go.Proofs.YtbnkgnfhgbhblaaGreat
namespace Go.Proofs.YtbnkgnfhgbhblaaGreat
open Go Go.Esc
set_option maxRecDepth 100000
noncomputable section
variable (n m m2:Nat) (a0 a1:Val) (h:A6)
def pN:FD Tryz.prog:=⟨px 0X14821361e2a81889611b7f01b3601647c0072123211012,[.c (.b false)],[],[.tmp 2],[]⟩
def A0w:=pN.R
def B5Q:=mR A0w pN (tT []) n [a0] h
def A79:=pN.K Tryz.func198
def A0M:=pN.S
theorem B6l:SOk Tryz.prog 198 A0M:=A79.sok
theorem B1N:E5 A0w A0M:=A79.flat
def yR:FD Tryz.prog:=⟨px 0X15c411961e311ac61967c403a488183954120114114122462bc6101ac403721322123141022ed22122,[],[],[.tmp 4],[cal B6l,cal vU]⟩
def A5y:=yR.R
def C2l:=mR A5y yR (tT []) n [a0,a1] h
def B5z:=yR.K Tryz.func142
def A6a:=yR.S
theorem C21:SOk Tryz.prog 142 A6a:=B5z.sok
theorem B6k:E5 A5y A6a:=B5z.flat
end
end Go.Proofs.YtbnkgnfhgbhblaaGreat
namespace Go.Proofs.YtbnkgnfhgbhblaaGreat
open Go Go.Esc
def mX (d:List Int):List UInt8:=(d.map (A9 2)).flatten
theorem B7u {d:List Int}:(mX d).length=2*d.length:=by
 induction d with
 | nil=>rfl
 | cons x d ih=>simp only [mX,E50,List.flatten_cons,E43,O7,E5a] at ih ⊢;omega
theorem C6Y {d:List Int} {x:Int}:mX (d++[x])=mX d++A9 2 x:=by simp [mX]
def ptP (b:List UInt8) (i:Nat):Int:=fieldN b (2*i) 2
theorem D69 (b:List UInt8) (i:Nat):0<=ptP b i/\ptP b i<65536:=by
 unfold ptP fieldN;have h1:=C1F ((b.drop (2*i)).take 2);have h2:((b.drop (2*i)).take 2).length<=2:=by simp;omega
 have h3:=uH h2;have h4:(256:Nat) ^ 2=65536:=by decide
 omega
theorem C3c {k:Nat} {h:A6} (hk:k<128):A0M [iV k] h=some (bV true,h):=by
 have key:∀ g,∃ g',A0w 0 [iV k] g=some (bV true,g'):=by
  intro g;have c1:(0:Int)<=k:=by omega
  have c2:(k:Int)<128:=by omega
  rw [B5Q];exact ⟨_,by simp only [esc,c1,c2]<;>rfl⟩
 obtain ⟨g',e⟩:=key (ro h);exact B1N e rfl
theorem E1b {b:List UInt8} {i:Nat} (hb:b.length=256) (hi:i<128):((atN b ((2*i:Nat):Int) 2:Nat):Int)=ptP b i:=by
 unfold atN ptP fieldN;rw [if_pos ⟨by omega,N2.2 (by omega)⟩];simp only [E5j];rfl
theorem D5j {i:Nat} (hi:i<128):IntKind.wrap .i64 (2*(i:Int))=((2*i:Nat):Int):=by rw [wrap_i64 (by omega) (by omega)];omega
theorem C8R {b:List UInt8} {k:Nat} {h:A6} (hb:b.length=256) (hk:k<128):A6a [.a (A5 b),iV k] h=some (iV (ptP b k),h):=by
 have key:∀ g,∃ g',A5y 0 [.a (A5 b),iV k] g=some (iV (ptP b k),g'):=by
  intro g;have hB:(A5 b).length=256:=by rw [A4,hb]
  have hT:=λh=>C3c (h:=h) hk
  have hA:=λh=>mK (h:=h) hb (a:=((2*k:Nat):Int)) (w:=2)
  rw [E1b hb hk] at hA;rw [C2l];exact ⟨_,by simp only [esc,esh,Nat.reduceAdd,Nat.reduceMul,Nat.reduceLT,hB,hT,D5j hk,hA]<;>rfl⟩
 obtain ⟨g',e⟩:=key (ro h);exact B6k e rfl
def zI (n:Nat):List Int:=E41 n 0
theorem G9 {n:Nat}:(zI n).length=n:=by simp [zI]
abbrev E6 (k l s p:Int) (d:List Int):List Cell:=.i .i64 k::.i .i64 l::.i .i64 s::.i .i64 p::encI d
def M7 (n:Int):Bool:=decide (0<=n)&&decide (n<=65535)
theorem B0Z {n:Int}:M7 n=true↔0<=n/\n<=65535:=by unfold M7;simp
theorem X5 {n:Int} {h:A6}:A3l [iV n] h=some (bV (M7 n),h):=by
 refine B4g (n:=0) (h2:=ro h) ?_ rfl;rw [B8h];unfold M7;by_cases c:0<=n
 ·simp only [esc,c,E5d]
 ·simp only [esc,c,E48]
theorem C29 {n:Int} {h:A6}:A0K [iV n] h=some (iV (if n<1 then 0 else if 34304<n then 134 else (n+255)/256),h):=by
 refine B1M (n:=0) (h2:=ro h) ?_ rfl;rw [B5O];by_cases c1:n<1
 ·rw [if_pos c1];simp only [esc,c1]
 ·rw [if_neg c1];by_cases c2:34304<n
  ·rw [if_pos c2];simp only [esc,c1,c2]
  ·rw [if_neg c2];have e1:IntKind.wrap .i64 (n+256)=n+256:=wrap_i64 (by omega) (by omega);have e2:IntKind.wrap .i64 (n+256-1)=n+255:=by rw [wrap_i64 (by omega) (by omega)];omega
   simp only [esc,c1,c2,e1,e2,zQ (a:=n+255) (b:=256) (by omega) (by omega) (by omega)]
theorem B7t {g:A6} {k l s p:Int} {d:List Int} {z:List Cell} {q:Nat} (hd:d.length=7) (hz:z.length=7):∀ e i m:Nat,i+e=6->e<m ->
  A4O q m (pV g.length 0) (pV (g.length+1) 0) (pV (g.length+2) 0) (.a (encI (d.take 6))) (iV i) (g++[rT (E6 k l s p d),rT z,rT (encI (d.take i++zI (7-i)))]) =
   some (.a (encI d),g++[rT (E6 k l s p d),rT (encI d),rT (encI d)])
 | e,i,0,_,hm=>by omega
 | 0,i,m+1,hi,hm=>by
  have e0:i=6:=by omega
  subst e0;have h1':¬ ((6:Nat):Int)<6:=by omega
  have l1:(E6 k l s p d)[10]?=some (.i .i64 d[6]):=by
   have:(encI d)[6]?=some (.i .i64 d[6]):=by rw [F6,E40 (by omega)];rfl
   exact this
  have a1:J3 7 1 (pV (g.length+2) 0) (iV 6)=some (pV (g.length+2) 6):=rfl;have ho:6<(encI (d.take 6++zI (7-6))).length:=by rw [A8,E43,G9,E5q];omega
  have es:(encI (d.take 6++zI (7-6))).set 6 (.i .i64 d[6])=encI d:=by
   rw [bC]
   congr 1
   have h6:(d.take 6).length=6:=by simp;omega
   rw [E5A _ _ (by omega),h6];have:d=d.take 6++[d[6]]:=by
    rw [<-E5f (by omega),E5b (by omega)]
   conv=>rhs;rw [this]
   rfl
  have hl:(encI d).length=7:=by rw [A8,hd]
  rw [yD];simp only [esc,esh,Nat.reduceAdd,Nat.reduceMul,Nat.reduceLT,h1',l1,a1,ho,es,hl,hz]
 | e+1,i,m+1,hi,hm=>by
  have ih:=B7t (g:=g) (k:=k) (l:=l) (s:=s) (p:=p) (q:=q) hd hz e (i+1) m (by omega) (by omega);have h1':(i:Int)<6:=by omega
  have hx:A3v 6 (.a (encI (d.take 6))) (iV (i:Int))=some (iV d[i]):=by
   rw [B63 (by omega),F6,E5B (by omega),E40 (by omega)];rfl
  have a1:J3 7 1 (pV (g.length+2) 0) (iV (i:Int))=some (pV (g.length+2) i):=by rw [J4 (by omega)];simp
  have ho:i<(encI (d.take i++zI (7-i))).length:=by rw [A8,E43,G9,E5q];omega
  have es:(encI (d.take i++zI (7-i))).set i (.i .i64 d[i])=encI (d.take (i+1)++zI (7-(i+1))):=by
   rw [bC];refine congrArg encI ?_;have h6:(d.take i).length=i:=by simp;omega
   rw [E5A _ _ (by omega),h6,E5K,E5f (by omega),E45];refine congrArg (d.take i ++ ·) ?_;rw [show 7-i=7-(i+1)+1 by omega];unfold zI;rw [E5p,E5L];rfl
  rw [yD];simp only [esc,esh,Nat.reduceAdd,Nat.reduceMul,Nat.reduceLT,h1',hx,a1,ho,es,C6 (show i+1<9223372036854775808 by omega)];exact ih
theorem E0g {k l s p:Int} {d:List Int} (hd:d.length=7):ldN (rT (E6 k l s p d)) 4 6=some (.a (encI (d.take 6))):=by
 have h1:(E6 k l s p d).length=11:=by simp [A8,hd]
 simp only [ldN,E49];rw [if_pos ⟨by omega,by simp⟩];simp only [List.drop_succ_cons,E5k];unfold encI;rw [List.map_take]
theorem uF {k l s p:Int} {d:List Int} {h:A6} (hd:d.length=7):xK [.a (E6 k l s p d)] h=some (.a (encI d),h):=by
 have key:∀ N,7<N->∀ g,∃ g',xE N [.a (E6 k l s p d)] g=some (.a (encI d),g'):=by
  intro N hN g;have:=B7t (g:=g) (k:=k) (l:=l) (s:=s) (p:=p) (z:=encI (zI 7)) (q:=N) hd (by rw [A8,G9]) 6 0 N (by omega) (by omega);have e0:encI (d.take 0++zI (7-0))=[o0,o0,o0,o0,o0,o0,o0]:=rfl;have e1:encI (zI 7)=[o0,o0,o0,o0,o0,o0,o0]:=rfl;rw [e0,e1] at this;rw [B3y];exact ⟨_,by simp only [esc,esh,Nat.reduceAdd,Nat.reduceMul,Nat.reduceLT,E0g hd];exact this⟩
 obtain ⟨g',e⟩:=key (h.length+8) (by omega) (ro h);exact A9h e (by simp)
def D37 (l s p:Int) (d:List Int):Bool:=decide (l=0/\s=0/\p=0/\d=zI 7)
def A2v (k l s p:Int) (d:List Int):Bool:=decide (0<=k/\k<=2)&&(M7 l&&(M7 p&&(decide (0<=s/\s<=34304)&&d.all M7)))
def A1p (k l s p:Int) (d:List Int):Bool:=if k=0 then D37 l s p d else A2v k l s p d
theorem C1e {h:A6} {d:List Int} {q:Nat} (hd:d.length=7):∀ e i m:Nat,i+e=7->e<m ->
  B0w q m (.a (encI d)) (iV i) h=some (iV (bif (d.drop i).all M7 then 0 else 1),h)
 | e,i,0,_,hm=>by omega
 | 0,i,m+1,hi,hm=>by
  have c0:¬ (i:Int)<7:=by omega
  rw [A2p,E5c (by omega)];simp only [esc,c0,List.all_nil]
 | e+1,i,m+1,hi,hm=>by
  have ih:=C1e (h:=h) (q:=q) hd e (i+1) m (by omega) (by omega);have c0:(i:Int)<7:=by omega
  have hx:A3v 7 (.a (encI d)) (iV (i:Int))=some (iV d[i]):=by
   rw [B63 (by omega),F6,E40 (by omega)];rfl
  rw [A2p,E46 (by omega),E5J];cases c1:M7 d[i] with
  | true =>
   simp only [esc,c0,hx,X5,c1,E5d,C6 (show i+1<9223372036854775808 by omega)];exact ih
  | false=>simp only [esc,c0,hx,X5,c1,E48]
theorem D5p {k l s p k' l' s' p':Int} {d d':List Int} {neg:Bool} (hd:d.length=7) (hd':d'.length=7) :
  aeq neg [Sh.i .i64,.i .i64,.i .i64,.i .i64,.i .i64,.i .i64,.i .i64,.i .i64,.i .i64,.i .i64,.i .i64] (.a (E6 k l s p d)) (.a (E6 k' l' s' p' d'))=some (bV (bif neg then !decide (k::l::s::p::d=k'::l'::s'::p'::d') else decide (k::l::s::p::d=k'::l'::s'::p'::d'))):=by
 have h1:=E1y (l:=k::l::s::p::d) (m:=k'::l'::s'::p'::d') (n:=11) (by simp [hd]) (by simp [hd']);have h2:=E1x (l:=k::l::s::p::d) (m:=k'::l'::s'::p'::d') (n:=11) (by simp [hd]) (by simp [hd']);cases neg
 ·exact h2
 ·exact h1
theorem D38 {l s p:Int} {d:List Int}:decide ((0:Int)::l::s::p::d=0::0::0::0::zI 7)=D37 l s p d:=by
 unfold D37;simp
theorem A4h:D9 [o0,o0,o0,o0,o0,o0,o0,o0,o0,o0,o0] []=some (E6 0 0 0 0 (zI 7)):=rfl
theorem B0v {k l s p:Int} {d:List Int} {h:A6} (hd:d.length=7):A3j [.a (E6 k l s p d)] h=some (iV (bif A1p k l s p d then 0 else 1),h):=by
 have hlen:(E6 k l s p d).length=11:=by simp [A8,hd]
 have key:∀ N,8<N->∀ g,∃ g',A2S N [.a (E6 k l s p d)] g=some (iV (bif A1p k l s p d then 0 else 1),g'):=by
  intro N hN g;have lp:=λg=>C1e (h:=g) (q:=N) hd 7 0 N (by omega) (by omega)
  simp only [E5k,E5y] at lp;rw [B8f];unfold A1p;by_cases k0:k=0
  ·subst k0;rw [if_pos rfl];have c1:¬ (0:Int)<0:=by omega
   have c2:¬ (2:Int)<0:=by omega
   have hq:=D5p (k:=0) (l:=l) (s:=s) (p:=p) (k':=0) (l':=0) (s':=0) (p':=0) (neg:=true) hd (G9 (n:=7));simp only [cond_true,D38] at hq;cases hz:D37 l s p d with
   | false =>
    rw [hz] at hq;exact ⟨_,by simp only [esc,esh,Nat.reduceAdd,Nat.reduceMul,Nat.reduceLT,c1,c2,hlen,A4h,hq]<;>rfl⟩
   | true =>
    rw [hz] at hq;have hz':=of_decide_eq_true hz;obtain ⟨rfl,rfl,rfl,rfl⟩:=hz';have sm:M7 0=true:=by decide
    have al:(zI 7).all M7=true:=by decide
    have c3:¬ (34304:Int)<0:=by omega
    rw [al] at lp;exact ⟨_,by simp only [esc,esh,Nat.reduceAdd,Nat.reduceMul,Nat.reduceLT,c1,c2,c3,hlen,A4h,hq,X5,sm,uF hd,lp]<;>rfl⟩
  ·rw [if_neg k0];unfold A2v;by_cases c1:k<0
   ·rw [decide_eq_false (show ¬ (0<=k/\k<=2) by omega)];exact ⟨_,by simp only [esc,esh,Nat.reduceAdd,Nat.reduceMul,Nat.reduceLT,c1,E48]<;>rfl⟩
   ·by_cases c2:2<k
    ·rw [decide_eq_false (show ¬ (0<=k/\k<=2) by omega)];exact ⟨_,by simp only [esc,esh,Nat.reduceAdd,Nat.reduceMul,Nat.reduceLT,c1,c2,E48]<;>rfl⟩
    ·rw [decide_eq_true (show 0<=k/\k<=2 by omega),E5d];cases sl:M7 l with
     | false=>exact ⟨_,by simp only [esc,esh,Nat.reduceAdd,Nat.reduceMul,Nat.reduceLT,c1,c2,k0,X5,sl,E48]<;>rfl⟩
     | true =>
      cases sp:M7 p with
      | false=>exact ⟨_,by simp only [esc,esh,Nat.reduceAdd,Nat.reduceMul,Nat.reduceLT,c1,c2,k0,X5,sl,sp,E5d,E48]<;>rfl⟩
      | true =>
       by_cases c3:s<0
       ·rw [decide_eq_false (show ¬ (0<=s/\s<=34304) by omega)];exact ⟨_,by simp only [esc,esh,Nat.reduceAdd,Nat.reduceMul,Nat.reduceLT,c1,c2,k0,X5,sl,sp,c3,E5d,E48]<;>rfl⟩
       ·by_cases c4:34304<s
        ·rw [decide_eq_false (show ¬ (0<=s/\s<=34304) by omega)];exact ⟨_,by simp only [esc,esh,Nat.reduceAdd,Nat.reduceMul,Nat.reduceLT,c1,c2,k0,X5,sl,sp,c3,c4,E5d,E48]<;>rfl⟩
        ·rw [decide_eq_true (show 0<=s/\s<=34304 by omega)];exact ⟨_,by simp only [esc,esh,Nat.reduceAdd,Nat.reduceMul,Nat.reduceLT,c1,c2,k0,X5,sl,sp,c3,c4,E5d,hlen,uF hd,lp]<;>rfl⟩
 obtain ⟨g',e⟩:=key (h.length+9) (by omega) (ro h);exact B4e e rfl
def rN (k l s p:Int):List UInt8:=A9 1 k++zeros 1++A9 2 l++A9 4 s++A9 2 p
def qZ (d:List Int):List UInt8:=(d.map (A9 2)).flatten
def gA (k l s p:Int) (d:List Int):List UInt8:=rN k l s p++qZ d++zeros 8
theorem fK {k l s p:Int}:(rN k l s p).length=10:=by simp [rN]
theorem kR {d:List Int}:(qZ d).length=2*d.length:=by
 unfold qZ
 induction d with
 | nil=>rfl
 | cons x d ih=>simp only [E50,List.flatten_cons,E43,O7,E5a,ih];omega
theorem kQ {k l s p:Int} {d:List Int} (hd:d.length=7):(gA k l s p d).length=32:=by
 unfold gA;rw [E43,E43,fK,kR,zeros_length,hd]
theorem B9N {d:List Int} {x:Int}:qZ (d++[x])=qZ d++A9 2 x:=by simp [qZ]
theorem D6J {k l s p:Int}:gT (gT (gT (gT (zeros 256) 0 1 k) 2 2 l) 4 4 s) 8 2 p=N9 256 (rN k l s p):=by
 rw [<-B7x];have h1:=iG (l:=[]) (a:=0) (w:=1) (v:=k) (by simp) (by omega) (by omega) (by omega);have h2:=iG (l:=[]++zeros (0-0)++A9 1 k) (a:=2) (w:=2) (v:=l) (by simp) (by omega) (by omega) (by omega);have h3:=iG (l:=[]++zeros (0-0)++A9 1 k++zeros 1++A9 2 l) (a:=4) (w:=4) (v:=s) (by simp) (by omega) (by omega) (by omega);have h4:=iG (l:=[]++zeros (0-0)++A9 1 k++zeros 1++A9 2 l++zeros 0++A9 4 s) (a:=8) (w:=2) (v:=p) (by simp) (by omega) (by omega) (by omega);simp only [E43,E5u,zeros_length,O7,E5K,Nat.zero_sub,Nat.reduceAdd,Nat.reduceSub] at h1 h2 h3 h4;simp only [E5y] at h1 h2 h3 h4;rw [h1,h2,h3,h4]
 congr 1
theorem D3E {g:A6} {c0:List Cell} {B:List UInt8} {z:List Cell} {q:Nat} (hB:B.length=256) (hz:z.length=32):∀ e i m:Nat,i+e=32->e<m ->
  B7e q m (pV (g.length+1) 0) (pV (g.length+2) 0) (pV (g.length+3) 0) (iV i) (g++[rT c0,rT z,rT (A5 (B.take i++zeros (32-i))),rT (A5 B)]) =
   some (.t [.a (A5 (B.take 32)),.c o0],g++[rT c0,rT (A5 (B.take 32)),rT (A5 (B.take 32)),rT (A5 B)])
 | e,i,0,_,hm=>by omega
 | 0,i,m+1,hi,hm=>by
  have e0:i=32:=by omega
  subst e0;have h1':¬ ((32:Nat):Int)<32:=by omega
  have hl:(A5 (B.take 32)).length=32:=by rw [A4,E5q];omega
  have e1:A5 (B.take 32++zeros (32-32))=A5 (B.take 32):=by simp [zeros]
  rw [A7D,e1];simp only [esc,esh,Nat.reduceAdd,Nat.reduceMul,Nat.reduceLT,h1',hl,hz]
 | e+1,i,m+1,hi,hm=>by
  have ih:=D3E (g:=g) (c0:=c0) (q:=q) hB hz e (i+1) m (by omega) (by omega);have h1':(i:Int)<32:=by omega
  have a1:J3 256 1 (pV (g.length+3) 0) (iV (i:Int))=some (pV (g.length+3) i):=by rw [J4 (by omega)];simp
  have a2:J3 32 1 (pV (g.length+2) 0) (iV (i:Int))=some (pV (g.length+2) i):=by rw [J4 (by omega)];simp
  have l1:(A5 B)[i]?=some (.i .u8 B[i].toNat):=by rw [bB,E40 (by omega)];rfl
  have ho:i<(A5 (B.take i++zeros (32-i))).length:=by rw [A4,E43,zeros_length,E5q];omega
  have es:(A5 (B.take i++zeros (32-i))).set i (.i .u8 B[i].toNat)=A5 (B.take (i+1)++zeros (32-(i+1))):=by
   rw [gJ];refine congrArg A5 ?_;have h6:(B.take i).length=i:=by simp;omega
   rw [E5A _ _ (by omega),h6,E5K,E5f (by omega),E45];refine congrArg (B.take i ++ ·) ?_;rw [show 32-i=32-(i+1)+1 by omega];unfold zeros;rw [E5p,E5L];rfl
  rw [A7D];simp only [esc,esh,Nat.reduceAdd,Nat.reduceMul,Nat.reduceLT,h1',a1,a2,l1,ho,es,C6 (show i+1<9223372036854775808 by omega)];exact ih
theorem D3F {g:A6} {k l s p:Int} {d:List Int} {c0 z:List Cell} {q:Nat} (hd:d.length=7) (hz:z.length=32) (hq:33<q):∀ e i m:Nat,i+e=7->e<m ->
  B7d q m (pV (g.length+1) 0) (pV (g.length+2) 0) (pV (g.length+3) 0) (.a (encI d)) (iV i) (g++[rT c0,rT z,rT (A5 (zeros 32)),rT (A5 (N9 256 (rN k l s p++qZ (d.take i))))]) =
   some (.t [.a (A5 (gA k l s p d)),.c o0],g++[rT c0,rT (A5 (gA k l s p d)),rT (A5 (gA k l s p d)),rT (A5 (N9 256 (rN k l s p++qZ d)))])
 | e,i,0,_,hm=>by omega
 | 0,i,m+1,hi,hm=>by
  have e0:i=7:=by omega
  subst e0;have h1':¬ ((7:Nat):Int)<7:=by omega
  rw [E5b (by omega)];have hlen:(rN k l s p++qZ d).length=24:=by rw [E43,fK,kR,hd]
  have:=D3E (g:=g) (c0:=c0) (z:=z) (q:=q) (B:=N9 256 (rN k l s p++qZ d)) (F7 (by omega)) hz 32 0 q (by omega) (by omega);have e1:(N9 256 (rN k l s p++qZ d)).take 32=gA k l s p d:=by
   unfold N9 gA;rw [List.take_append,E5b (by omega),hlen];refine congrArg (rN k l s p++qZ d ++ ·) ?_;unfold zeros;rw [List.take_replicate];rfl
  rw [e1] at this;simp only [E5X,E5g,Nat.sub_zero] at this;rw [A7C];simp only [esc,h1'];exact this
 | e+1,i,m+1,hi,hm=>by
  have ih:=D3F (g:=g) (k:=k) (l:=l) (s:=s) (p:=p) (c0:=c0) hd hz hq e (i+1) m (by omega) (by omega);have h1':(i:Int)<7:=by omega
  have hx:A3v 7 (.a (encI d)) (iV (i:Int))=some (iV d[i]):=by
   rw [B63 (by omega),F6,E40 (by omega)];rfl
  have hlen:(rN k l s p++qZ (d.take i)).length=10+2*i:=by rw [E43,fK,kR,E5q];omega
  have hL:(A5 (N9 256 (rN k l s p++qZ (d.take i)))).length=256:=by rw [A4,F7 (by omega)]
  have e2:IntKind.wrap .i64 (2*(i:Int))=((2*i:Nat):Int):=by rw [wrap_i64 (by omega) (by omega)];omega
  have e3:IntKind.wrap .i64 (10+((2*i:Nat):Int))=((10+2*i:Nat):Int):=by rw [wrap_i64 (by omega) (by omega)];omega
  have hw:=X7 (l:=N9 256 (rN k l s p++qZ (d.take i))) (h:=g++[rT c0,rT z,rT (A5 (zeros 32)),rT (A5 (N9 256 (rN k l s p++qZ (d.take i))))]) (F7 (by omega)) (a:=((10+2*i:Nat):Int)) (w:=2) (v:=d[i]);have e4:=iG (l:=rN k l s p++qZ (d.take i)) (a:=10+2*i) (w:=2) (v:=d[i]) (by omega) (by omega) (by omega) (by omega);rw [show ((2:Nat):Int)=2 from rfl,hlen,E5K,show zeros 0=[] from rfl,E5t,E45,<-B9N,<-E5f (by omega)] at e4;rw [e4] at hw;have hL':(A5 (N9 256 (rN k l s p++qZ (d.take (i+1))))).length=256:=by
   rw [A4,F7 (by rw [E43,fK,kR,E5q];omega)]
  rw [A7C];simp only [esc,esh,Nat.reduceAdd,Nat.reduceMul,Nat.reduceLT,h1',hx,hL,e2,e3,hw,hL',C6 (show i+1<9223372036854775808 by omega)];exact ih
theorem B7c {k l s p:Int} {d:List Int} {h:A6} (hd:d.length=7) :
  A9i [.a (E6 k l s p d)] h=some (.t [.a (A5 (bif A1p k l s p d then gA k l s p d else zeros 32)),.c (.i .i64 (bif A1p k l s p d then 0 else 1))],h):=by
 have hlen:(E6 k l s p d).length=11:=by simp [A8,hd]
 have key:∀ N,33<N->∀ g,∃ g',A8t N [.a (E6 k l s p d)] g=some (.t [.a (A5 (bif A1p k l s p d then gA k l s p d else zeros 32)),.c (.i .i64 (bif A1p k l s p d then 0 else 1))],g'):=by
  intro N hN g;have hz:(A5 (zeros 32)).length=32:=by rw [A4];exact zeros_length
  have hz2:(A5 (zeros 256)).length=256:=by rw [A4];exact zeros_length
  rw [C4n,I5,I5];cases c:A1p k l s p d with
  | false =>
   generalize zeros 32=z at *;generalize zeros 256=y at *;exact ⟨_,by simp only [esc,esh,Nat.reduceAdd,Nat.reduceMul,Nat.reduceLT,hlen,B0v hd,c,hz,Int.reduceEq]<;>rfl⟩
  | true =>
   have:=D3F (g:=g) (k:=k) (l:=l) (s:=s) (p:=p) (c0:=E6 k l s p d) (z:=A5 (zeros 32)) (q:=N) hd hz hN 7 0 N (by omega) (by omega);simp only [E5X,show qZ []=[] from rfl,E5t] at this;have w1:=λh=>X7 (h:=h) (l:=zeros 256) zeros_length (a:=0) (w:=1) (v:=k)
   have w2:=λh=>X7 (h:=h) (l:=gT (zeros 256) 0 1 k) (S6 zeros_length) (a:=2) (w:=2) (v:=l)
   have w3:=λh=>X7 (h:=h) (l:=gT (gT (zeros 256) 0 1 k) 2 2 l) (S6 (S6 zeros_length)) (a:=4) (w:=4) (v:=s)
   have w4:=λh=>X7 (h:=h) (l:=gT (gT (gT (zeros 256) 0 1 k) 2 2 l) 4 4 s) (S6 (S6 (S6 zeros_length))) (a:=8) (w:=2) (v:=p)
   have l1:(A5 (gT (zeros 256) 0 1 k)).length=256:=by rw [A4,S6 zeros_length]
   have l2:(A5 (gT (gT (zeros 256) 0 1 k) 2 2 l)).length=256:=by rw [A4,S6 (S6 zeros_length)]
   have l3:(A5 (gT (gT (gT (zeros 256) 0 1 k) 2 2 l) 4 4 s)).length=256:=by rw [A4,S6 (S6 (S6 zeros_length))]
   have l4:(A5 (N9 256 (rN k l s p))).length=256:=by rw [A4,F7 (by rw [fK];omega)]
   simp only [D6J] at w4;generalize zeros 32=z at *;generalize zeros 256=y at *;exact ⟨_,by simp only [esc,esh,Nat.reduceAdd,Nat.reduceMul,Nat.reduceLT,hlen,B0v hd,c,hz,hz2,w1,w2,w3,w4,l1,l2,l3,l4,uF hd];exact this⟩
 obtain ⟨g',e⟩:=key (h.length+34) (by omega) (ro h);exact B87 e (by simp)
def pH (b:List UInt8):Int:=fieldN b 0 1
def qW (b:List UInt8):Int:=fieldN b 2 2
def qY (b:List UInt8):Int:=fieldN b 4 4
def qX (b:List UInt8):Int:=fieldN b 8 2
def L5 (b:List UInt8):List Int:=(E5v 7).map λj=>fieldN b (10+2*j) 2
theorem E3 {b:List UInt8}:(L5 b).length=7:=by simp [L5]
theorem B1l {b:List UInt8} {i:Nat} (hi:i<7):(L5 b)[i]?=some (fieldN b (10+2*i) 2):=by simp [L5,hi]
theorem B7a {k l s p x:Int} {d:List Int} {i:Nat}:(E6 k l s p d).set (4+i) (.i .i64 x)=E6 k l s p (d.set i x):=by
 rw [show 4+i=i+1+1+1+1 by omega];simp only [E6,E5M,bC]
theorem zS {D:List Int} (hD:D.length=7) {i:Nat} (hi:i<7):(D.take i++zI (7-i)).set i D[i]=D.take (i+1)++zI (7-(i+1)):=by
 have h6:(D.take i).length=i:=by simp;omega
 rw [E5A _ _ (by omega),h6,E5K,E5f (by omega),E45];refine congrArg (D.take i ++ ·) ?_;rw [show 7-i=7-(i+1)+1 by omega];unfold zI;rw [E5p,E5L];rfl
theorem C93 {g:A6} {b:List UInt8} {k l s p:Int} {c0 z:List Cell} {q:Nat} (hb:b.length=32) (hz:z.length=11):∀ e i m:Nat,i+e=6->e<m ->
  B7b q m (pV (g.length+1) 0) (pV (g.length+2) 0) (pV (g.length+3) 0) (iV i) (g++[rT c0,rT z,rT (A5 (N9 256 b)),rT (E6 k l s p ((L5 b).take i++zI (7-i)))]) =
   some (.a (E6 k l s p (L5 b)),g++[rT c0,rT (E6 k l s p (L5 b)),rT (A5 (N9 256 b)),rT (E6 k l s p (L5 b))])
 | e,i,0,_,hm=>by omega
 | 0,i,m+1,hi,hm=>by
  have e0:i=6:=by omega
  subst e0;have h1':¬ ((6:Nat):Int)<6:=by omega
  have hX:(A5 (N9 256 b)).length=256:=by rw [A4,F7 (by omega)]
  have ha:=λh=>mK (h:=h) (l:=N9 256 b) (F7 (by omega)) (a:=22) (w:=2)
  have e1:=D4h (b:=b) (a:=22) (w:=2) (by omega) (by omega) (by omega) (by omega);simp only [E5y] at e1;simp only [e1] at ha;have hl0:(E6 k l s p ((L5 b).take 6++zI (7-6))).length=11:=by simp [A8,E3,G9]
  have ho:(encI ((L5 b).take 6++zI (7-6))).length=7:=by simp [A8,E3,G9]
  have hg6:(L5 b)[6]'(by rw [E3];omega)=fieldN b 22 2:=by
   have:=B1l (b:=b) (i:=6) (by omega);rw [E40 (by rw [E3];omega)] at this;exact Option.some.inj this
  have es:(E6 k l s p ((L5 b).take 6++zI (7-6))).set 10 (.i .i64 (fieldN b 22 2))=E6 k l s p (L5 b):=by
   have h1:=B7a (k:=k) (l:=l) (s:=s) (p:=p) (x:=fieldN b 22 2) (d:=(L5 b).take 6++zI (7-6)) (i:=6);rw [show 4+6=10 from rfl] at h1;rw [h1,<-hg6,zS E3 (by omega)];have:(L5 b).take (6+1)++zI (7-(6+1))=L5 b:=by rw [E5b (by rw [E3];omega)];simp [zI]
   rw [this]
  have hl1:(E6 k l s p (L5 b)).length=11:=by simp [A8,E3]
  rw [A7B];simp only [esc,esh,Nat.reduceAdd,Nat.reduceMul,Nat.reduceLT,h1',hX,ha,ho,es,hl1,hz,A8,E3]
 | e+1,i,m+1,hi,hm=>by
  have ih:=C93 (g:=g) (k:=k) (l:=l) (s:=s) (p:=p) (c0:=c0) (q:=q) hb hz e (i+1) m (by omega) (by omega);have h1':(i:Int)<6:=by omega
  have hX:(A5 (N9 256 b)).length=256:=by rw [A4,F7 (by omega)]
  have e2:IntKind.wrap .i64 (2*(i:Int))=((2*i:Nat):Int):=by rw [wrap_i64 (by omega) (by omega)];omega
  have e3:IntKind.wrap .i64 (10+((2*i:Nat):Int))=((10+2*i:Nat):Int):=by rw [wrap_i64 (by omega) (by omega)];omega
  have ha:=λh=>mK (h:=h) (l:=N9 256 b) (F7 (by omega)) (a:=((10+2*i:Nat):Int)) (w:=2)
  have e1:=D4h (b:=b) (a:=10+2*i) (w:=2) (by omega) (by omega) (by omega) (by omega);rw [show ((2:Nat):Int)=2 from rfl] at e1;simp only [e1] at ha;have a1:J3 6 1 (pV (g.length+3) 4) (iV (i:Int))=some (pV (g.length+3) (4+i)):=by rw [J4 (by omega)];simp
  have ho:(encI ((L5 b).take i++zI (7-i))).length=7:=by simp [A8,E3,G9];omega
  have ho2:4+i<11:=by omega
  have hgi:(L5 b)[i]'(by rw [E3];omega)=fieldN b (10+2*i) 2:=by
   have:=B1l (b:=b) (i:=i) (by omega);rw [E40 (by rw [E3];omega)] at this;exact Option.some.inj this
  have es:(E6 k l s p ((L5 b).take i++zI (7-i))).set (4+i) (.i .i64 (fieldN b (10+2*i) 2))=E6 k l s p ((L5 b).take (i+1)++zI (7-(i+1))):=by
   rw [B7a,<-hgi,zS E3 (by omega)]
  rw [A7B];simp only [esc,esh,Nat.reduceAdd,Nat.reduceMul,Nat.reduceLT,h1',hX,e2,e3,ha,a1,ho,ho2,es,C6 (show i+1<9223372036854775808 by omega)];exact ih
theorem A6C {b:List UInt8} {h:A6} (hb:b.length=32):A9g [.a (A5 b)] h=some (.a (E6 (pH b) (qW b) (qY b) (qX b) (L5 b)),h):=by
 have key:∀ N,7<N->∀ g,∃ g',A8s N [.a (A5 b)] g=some (.a (E6 (pH b) (qW b) (qY b) (qX b) (L5 b)),g'):=by
  intro N hN g;have hl:(A5 b).length=32:=by rw [A4,hb]
  have hX:(A5 (N9 256 b)).length=256:=by rw [A4,F7 (by omega)]
  have hz:(E41 256 (Cell.i .u8 0)).length=256:=E5r;have z11:[o0,o0,o0,o0,o0,o0,o0,o0,o0,o0,o0]=E6 0 0 0 0 (zI 7):=rfl;have l11:(E6 0 0 0 0 (zI 7)).length=11:=rfl;have ho:=B1s (h:=g++[rT (A5 b),rT (E6 0 0 0 0 (zI 7))]) (v:=sV g.length 0 32 1) (nv:=32) (data:=b) (Has.tr (by simp) (by omega) (F0 _)) (by omega);rw [C6Z (by omega)] at ho;have at_:∀ (a w:Nat),a+w<=32->1<=w->w<=4->∀ h,B6j [.a (A5 (N9 256 b)),iV a,iV w] h=some (iV (fieldN b a w),h):=λa w h1 h2 h3 h=>by
   rw [mK (F7 (by omega)),D4h (by omega) (by omega) h2 h3]
  have a1:=at_ 0 1 (by omega) (by omega) (by omega);have a2:=at_ 2 2 (by omega) (by omega) (by omega);have a3:=at_ 4 4 (by omega) (by omega) (by omega);have a4:=at_ 8 2 (by omega) (by omega) (by omega);simp only [E5y] at a1 a2 a3 a4;have ef:D9 (E6 0 0 0 0 (zI 7)) [(0,1,iV (fieldN b 0 1)),(1,1,iV (fieldN b 2 2)),(2,1,iV (fieldN b 4 4)),(3,1,iV (fieldN b 8 2))]=some (E6 (pH b) (qW b) (qY b) (qX b) (zI 7)):=rfl;have lf:(E6 (pH b) (qW b) (qY b) (qX b) (zI 7)).length=11:=rfl;have:=C93 (g:=g) (b:=b) (k:=pH b) (l:=qW b) (s:=qY b) (p:=qX b) (c0:=A5 b) (z:=E6 0 0 0 0 (zI 7)) (q:=N) hb l11 6 0 N (by omega) (by omega);simp only [E5X,E5g,Nat.sub_zero] at this;rw [C4m,z11];generalize E41 256 (Cell.i .u8 0)=z at *;generalize E6 0 0 0 0 (zI 7)=y at *;exact ⟨_,by simp only [esc,esh,Nat.reduceAdd,Nat.reduceMul,Nat.reduceLT,hl,ho,hz,hX,a1,a2,a3,a4,ef,l11,lf];exact this⟩
 obtain ⟨g',e⟩:=key (h.length+8) (by omega) (ro h);exact B86 e (by simp)
def iO (b:List UInt8):Bool:=A1p (pH b) (qW b) (qY b) (qX b) (L5 b)&&decide (gA (pH b) (qW b) (qY b) (qX b) (L5 b)=b)
def dF (b:List UInt8):List Cell:=bif iO b then E6 (pH b) (qW b) (qY b) (qX b) (L5 b) else E6 0 0 0 0 (zI 7)
theorem vD {b:List UInt8}:(dF b).length=11:=by
 unfold dF;cases iO b<;>simp [A8,E3,G9]
theorem zK {b:List UInt8}:N7 (dF b)=true:=by
 unfold dF;cases iO b<;>simp
theorem C6A {b:List UInt8} {h:A6} (hb:b.length=32):A3k [.a (A5 b)] h=some (.t [.a (dF b),.c (.b (iO b))],h):=by
 have key:∀ g,∃ g',A2T 0 [.a (A5 b)] g=some (.t [.a (dF b),.c (.b (iO b))],g'):=by
  intro g;have hl:(A5 b).length=32:=by rw [A4,hb]
  have hI:(E6 (pH b) (qW b) (qY b) (qX b) (L5 b)).length=11:=by simp [A8,E3]
  have z11:[o0,o0,o0,o0,o0,o0,o0,o0,o0,o0,o0]=E6 0 0 0 0 (zI 7):=rfl;have l11:(E6 0 0 0 0 (zI 7)).length=11:=rfl;have af:=A4h;rw [z11] at af;have hz:(E41 32 (Cell.i .u8 0)).length=32:=E5r;have hp:=λh=>B7c (h:=h) (k:=pH b) (l:=qW b) (s:=qY b) (p:=qX b) (d:=L5 b) E3
  have hB:(A5 (gA (pH b) (qW b) (qY b) (qX b) (L5 b))).length=32:=by rw [A4,kQ E3]
  have hZ:(A5 (zeros 32)).length=32:=by rw [A4];exact zeros_length
  have hq:=D5q (l:=gA (pH b) (qW b) (qY b) (qX b) (L5 b)) (m:=b) (n:=32) (kQ E3) hb;rw [B8g,z11];unfold dF iO;generalize E41 32 (Cell.i .u8 0)=z at *;generalize E6 0 0 0 0 (zI 7)=y at *;cases c:A1p (pH b) (qW b) (qY b) (qX b) (L5 b) with
  | false =>
   simp only [c,cond_false] at hp;exact ⟨_,by simp only [esc,esh,Nat.reduceAdd,Nat.reduceMul,Nat.reduceLT,hl,A6C hb,hI,l11,hp,hz,hZ,Int.reduceEq,af,E48]<;>rfl⟩
  | true =>
   simp only [c,cond_true] at hp;cases c2:decide (gA (pH b) (qW b) (qY b) (qX b) (L5 b)=b) with
   | false =>
    rw [c2] at hq;exact ⟨_,by simp only [esc,esh,Nat.reduceAdd,Nat.reduceMul,Nat.reduceLT,hl,A6C hb,hI,l11,hp,hz,hB,hq,af,E5Y]<;>rfl⟩
   | true =>
    rw [c2] at hq;exact ⟨_,by simp only [esc,esh,Nat.reduceAdd,Nat.reduceMul,Nat.reduceLT,hl,A6C hb,hI,l11,hp,hz,hB,hq,Bool.and_true]<;>rfl⟩
 obtain ⟨g',e⟩:=key (ro h);exact B4f e (by simp [zK])
end Go.Proofs.YtbnkgnfhgbhblaaGreat
namespace Go.Proofs.YtbnkgnfhgbhblaaGreat
open Go Go.Esc
set_option maxRecDepth 100000
noncomputable section
variable (n m m2:Nat) (a0 a1 a2 x1 x2 x3 x4 x5 x6 x7 x8 x9 x10 x11 x12 x15 x16 x17 x20 x21:Val) (h:A6)
def uS:FD Tryz.prog:=⟨px 0X138211688068861c044c52121062ec2112,[],[.min (.t 4) (.v (.c (.i .i64 5))),.max (.v (.c o0)) (.t 5)],[.tmp 2],[]⟩
def A2P:=uS.R
def B8c:=mR A2P uS (tT []) n [a0] h
def B12:=uS.K Tryz.func168
def A3g:=uS.S
theorem aR:SOk Tryz.prog 168 A3g:=B12.sok
theorem B4b:E5 A2P A3g:=B12.flat
def yP:FD Tryz.prog:=⟨px 0X14821361e2a87ffffd6191b7f01b3601647c0072123211012,[.c (.b false)],[],[.tmp 2],[]⟩
def B5N:=yP.R
def C2h:=mR B5N yP (tT []) n [a0] h
def B5v:=yP.K Tryz.func169
def A54:=yP.S
theorem A7a:SOk Tryz.prog 169 A54:=B5v.sok
theorem B6e:E5 B5N A54:=B5v.flat
def oJ:FD Tryz.prog:=⟨px 0X11312184881de284884c393322229c2d157a07c2182284881de6191a2e421ac380628907c61967c2c0284883d39718015312184881de01c3e8332222462bc6131ac3839133b2d2c6542722d2c6542631c801bc511e2a484981a042d2c654262152d2c4243070242d2c4243289617c12e2d2c42522d2c42406051064838142b4d32d2c4242422319824881de11c142df65291e421ac61c044c6111ac64ac1f131b127113104194101d48b7219421330153125a4881de01c3e8332222461e37c16101ac4493861c0474d40191b21332123101c2d862ec32122,[.c (.i .u8 105),.c (.i .u8 100),.c (.i .u8 120),.c (.i .u8 33)],[],[.cellN 2 256,.tmp 3],[cal aR,cal A11,cal vB,cal A7a]⟩
def A8q:=oJ.R
def B68:AtH:=oJ.lj 0 n [m] [x2,x4,x20,x21]
def C0X:=tT [⟨2,4,B68⟩]
def C4l:=mR A8q oJ C0X n [a0] h
def A7A:=mL oJ C0X 0 n [m] [x2,x4,x20,x21] h
def C0q:=oJ.K Tryz.func103
def A9e:=oJ.S
theorem A9f:SOk Tryz.prog 103 A9e:=C0q.sok
theorem B81:E5 A8q A9e:=C0q.flat
def yQ:FD Tryz.prog:=⟨px 0X13821651b7c64c86101ac4493852121062ec2112,[],[],[.tmp 2],[cal aR]⟩
def A5w:=yQ.R
def C2i:=mR A5w yQ (tT []) n [a0] h
def B5w:=yQ.K Tryz.func163
def A55:=yQ.S
theorem bU:SOk Tryz.prog 163 A55:=B5w.sok
theorem B6f:E5 A5w A55:=B5w.flat
def fE:FD Tryz.prog:=⟨px 0X1131218491de28496939332222d81815607c48591318017931218491de01f3e833222241637c61c1a614828c1284c485b155f1842423518423327024289617c484f12581842421842331842316252b81816121ac28494d3931842324223017931218491de01f3e83322224632a2a807e68b44887e3b384887e3b601637c3c3d174b423242231e801dc24881de1c62d912a6801e3b691d83816111ac284939391876421521bc1c155e07c2181a21fa3e614828c1284c1962a301ac628907c61967c6a04488385a1f1191878511a021c542152151c42143070241c42143289617c11d1c421521c4214060511c111c42142421335c2491de1f42d961011f3e85296301ac44881939542132101f2d862ec32122,[.c (.b true)],[.eqA true (E41 256 (.i .u8)) (.t 32) (.t 33)],[.cellN 2 33,.tmp 3],[cal vU,cal A9f,cal bU]⟩
def A8p:=fE.R
def B65:AtH:=fE.lj 0 n [m] [x1,x2,x4,x12]
def B66:AtH:=fE.lj 1 n [m] [x2,x4,x8]
def A9D:=tT [⟨2,4,B65⟩,⟨2,3,B66⟩]
def C4k:=mR A8p fE A9D n [a0] h
def A7w:=mL fE A9D 0 n [m] [x1,x2,x4,x12] h
def A7x:=mL fE A9D 1 n [m] [x2,x4,x8] h
def C0p:=fE.K Tryz.func99
def A9d:=fE.S
theorem C44:SOk Tryz.prog 99 A9d:=C0p.sok
theorem B8Z:E5 A8p A9d:=C0p.flat
def gX:FD Tryz.prog:=⟨px 0X1741141219c7156a02b7d2180134114122462e27c161c1a614828c16e4c4061c1a614828c14e4c2e1a1180192a7621534c511a02765215215762143070247621431a617c11876215276214060510461276214203341022ed22122,[.c (.b false),.c (.b true)],[],[.tmp 4],[]⟩
def A2Q:=gX.R
def B0s:AtH:=gX.lj 0 n [m] [x1,x2,x6,x7]
def B2q:=tT [⟨2,4,B0s⟩]
def B8d:=mR A2Q gX B2q n [a0,a1] h
def A2n:=mL gX B2q 0 n [m] [x1,x2,x6,x7] h
def B13:=gX.K Tryz.func170
def A3h:=gX.S
theorem A4e:SOk Tryz.prog 170 A3h:=B13.sok
theorem B4c:E5 A2Q A3h:=B13.flat
def dS:FD Tryz.prog:=⟨px 0X12bc61484f1261229819161a07c3c04c4814182b818161e13cc61011113fc4c0484b151815191873430702461e17c6101ac1c49384c3c143f1918735219187343191873406051dc19161a187c3c04391419187342181313b8118731421c871651b7c64c8168806886111ac1c4938182a1187313201163b9161224632e2a861e4387f610381af5e49383b4383601617c41a118293214232133163b9032ed232132,[.c (.b true)],[.min (.t 18) (.t 20),.max (.v (.c o0)) (.t 21)],[.tmp 6],[cal bU,cal aR]⟩
def A0v:=dS.R
def A7z:AtH:=dS.lj 0 n [m] [x3,x7,x8,x9]
def A9E:=tT [⟨2,4,A7z⟩]
def B5M:=mR A0v dS A9E n [a0,a1,a2] h
def B4N:=mL dS A9E 0 n [m] [x3,x7,x8,x9] h
def A77:=dS.K Tryz.func209
def A0J:=dS.S
theorem A10:SOk Tryz.prog 209 A0J:=A77.sok
theorem B39:pE A0v A0J:=A77.out
def gY:FD Tryz.prog:=⟨px 0X176116121ac1b155a02d7d2180136116122461a37c18061c1a614828c16e4c3e1f162c1b1a1932627818161c1a2a119831b1a19183262151b1a193253070241b1a1932531a617c11c1b1a1932621b1a1932506051061c8419131b1a19325203361032ed232132,[.c (.b false),.c (.b true)],[],[.tmp 6],[]⟩
def A2R:=gY.R
def B0t:AtH:=gY.lj 0 n [m] [x2,x3,x9,x10,x11]
def B2r:=tT [⟨2,5,B0t⟩]
def B8e:=mR A2R gY B2r n [a0,a1,a2] h
def A2o:=mL gY B2r 0 n [m] [x2,x3,x9,x10,x11] h
def B14:=gY.K Tryz.func241
def A3i:=gY.S
theorem B83:SOk Tryz.prog 241 A3i:=B14.sok
theorem B4d:E5 A2R A3i:=B14.flat
def lU:FD Tryz.prog:=⟨px 0X12bc416111ac18494e3934122ac28151ae04d7d218012a8412c0241224765e2a862e4e33691af26691f1a61486928f118694f469361a1e32691af2c69346931849693b1849693b601637c61c1a614828c1184c42b11f0194b281f52163198511a02281f5215215281f214307024281f21431a617c129281f2152281f2140605106111ac6a491e393281f214221301141141224632e2a861e4287f610281af4a49283b4283601617c461181d21322123141022ed22122,[.c (.b true),.c (.b false)],[],[.tmp 4],[cal bU,cal aR,cal A10,cal B83]⟩
def A5v:=lU.R
def B2W:AtH:=lU.lj 0 n [m] [x1,x2,x15,x16]
def B6w:=tT [⟨2,4,B2W⟩]
def C2g:=mR A5v lU B6w n [a0,a1] h
def A4N:=mL lU B6w 0 n [m] [x1,x2,x15,x16] h
def B5u:=lU.K Tryz.func210
def A53:=lU.S
theorem C2W:SOk Tryz.prog 210 A53:=B5u.sok
theorem B6d:E5 A5v A53:=B5u.flat
def aH:FD Tryz.prog:=⟨px 0X11ac412c2d124121a819155e02c7d218019c515607c6e03182461a27c4061c1a614828c15e4c3a1c16291918521625c611a021918652162151918521511a070241918521531a617c11a191852162191852150605106101ac2e49739319185215251310152132141022ed22122,[],[],[.tmp 4],[cal bU]⟩
def A2O:=aH.R
def B0q:AtH:=aH.lj 0 n [m] [x1,x2,x5,x8,x9]
def C6y:AtH:=aH.lj 1 n [m] [x1,x2,x5,x8,x9]
def A3t:=tT [⟨2,5,B0q⟩,⟨2,5,C6y⟩]
def B8b:=mR A2O aH A3t n [a0,a1] h
def A2m:=mL aH A3t 0 n [m] [x1,x2,x5,x8,x9] h
def A2l:=mJ aH A3t 1 n [m] [x1,x2,x5,x8,x9] h
def B11:=aH.K Tryz.func211
def A3f:=aH.S
theorem B82:SOk Tryz.prog 211 A3f:=B11.sok
theorem B4a:E5 A2O A3f:=B11.flat
def fD:FD Tryz.prog:=⟨px 0X1218491de1c496c39221239c291529a07c21801a21fa1e614828c11c4c2c028051824636a2a862a218c7f261a2618c1af2c18c344918c3b618c1cb62a2e3518c1af61a2418c1af2818c344918c3b2818c344918c3b6061a231ac280449381e0195e29285432118301724632a2a866c2bf6126c1af2c6c3601627c2c38173e292854321182292854321731bc5161c1a614828c144c282c152928543217219c411a022928432162152928321511a070242928321531a617c12a292832162292832150605106111ac4491f3932928321523223782491de1f32d961011f3e861c044c5321320124e491de01f3e822122461e37c16101ac4493861c0464d40191a213321231f2d862ec22122,[.c (.b true)],[],[.cellN 2 33],[cal aR,cal bU,cal A7a,cal A4e,cal C2W,cal A10,cal B82]⟩
def A8o:=fD.R
def zO:AtH:=fD.lj 0 n [m] [x1,x2,x3,x16,x17]
def D1u:AtH:=fD.lj 1 n [m] [x1,x2,x3,x16,x17]
def A9C:=tT [⟨2,5,zO⟩,⟨2,5,D1u⟩]
def C4j:=mR A8o fD A9C n [a0] h
def A7v:=mL fD A9C 0 n [m] [x1,x2,x3,x16,x17] h
def gM:=mJ fD A9C 1 n [m] [x1,x2,x3,x16,x17] h
def C0o:=fD.K Tryz.func164
def A9c:=fD.S
theorem C43:SOk Tryz.prog 164 A9c:=C0o.sok
theorem B8Y:E5 A8o A9c:=C0o.flat
def U7:FD Tryz.prog:=⟨px 0X11e8211c3c122121dc7153c03b7d21801d83163a13cc61011113fc61c1a614828c144c2801c0181824362a2a861a213f1af6e3f34493f3b601637c61c1a614828c144c3a1a11a2b76431624c411a027643152157631411a070247631431a617c118763152763140605106101ac449539376314231313b81312213b862ec2112,[.c (.b false)],[],[.tmp 2],[cal bU,cal A4e]⟩
def xD:=U7.R
def uE:AtH:=U7.lj 0 n [m] [x1,x3,x6,x7]
def B9M:AtH:=U7.lj 1 n [m] [x1,x3,x6,x7]
def xM:=tT [⟨2,4,uE⟩,⟨2,4,B9M⟩]
def B3x:=mR xD U7 xM n [a0] h
def yC:=mL U7 xM 0 n [m] [x1,x3,x6,x7] h
def nB:=mJ U7 xM 1 n [m] [x1,x3,x6,x7] h
def A6Z:=U7.K Tryz.func104
def xJ:=U7.S
theorem nW:SOk Tryz.prog 104 xJ:=A6Z.sok
theorem B1L:pE xD xJ:=A6Z.out
def uR:FD Tryz.prog:=⟨px 0X1484161e211ac6101ac2a4938405412141022ed22122,[],[],[.tmp 4],[cal aR,cal D02]⟩
def A2N:=uR.R
def B8a:=mR A2N uR (tT []) n [a0,a1] h
def B10:=uR.K Tryz.func148
def A3e:=uR.S
theorem B80:SOk Tryz.prog 148 A3e:=B10.sok
theorem B38:E5 A2N A3e:=B10.flat
end
end Go.Proofs.YtbnkgnfhgbhblaaGreat
namespace Go.Proofs.YtbnkgnfhgbhblaaGreat
open Go Go.Esc
theorem D4Y {h:A6} {id n sz:Nat} {cs ys:List Cell} (hr:rd h id=rT cs) (hl:cs.length=n*sz) (hy:ys.length=sz) (hsz:0<sz) (hn:n+1<=1073741824) :
  ∃ h',jK (h++[rT ys]) sz (sV id 0 n sz) (sV h.length 0 1 sz)=some (sV (h.length+1) 0 (n+1) sz,h')/\rd h' (h.length+1)=rT (cs++ys)/\(∀ i r,i≠id->rd h i=some r->rd h' i=some r)/\(∀ b,b<=id->b<=h.length->Low b h h'):=by
 have U8:=C5 hr;refine ⟨(h++[rT ys]).set id none++[rT (cs++ys)],?_,?_,λi r hi hir=>?_,λb hb hb2=>(((Low.refl hb2).new _).set hb none).new _⟩
 ·rw [jX (h:=h++[rT ys]) (m:=1) (B6 hr) hl S8 (by omega) rfl hsz hn];simp
 ·have:=S8 (h:=(h++[rT ys]).set id none) (r:=Row.mk (cs++ys) true);rw [E5w] at this;simpa using this
 ·refine B6 ?_;rw [A7 (Ne.symm hi)];exact B6 hir
theorem D9T {h:A6} {jd m sz:Nat} {ys:List Cell} (hy:rd h jd=rT ys) (hyl:ys.length=m*sz) (hsz:0<sz) (hn:m<=1073741824) :
  jK h sz (.c .ns) (sV jd 0 m sz)=some (sV h.length 0 m sz,h++[rT ys]):=by
 have h2:O5 h sz (sV jd 0 m sz)=some ys:=by
  simp only [O5,if_true,gF,hy,E49,E5k,E5l];rw [<-hyl,List.take_length,if_pos ⟨E44 _,rfl⟩]
 have e1:ys.length/sz=m:=by rw [hyl];exact Nat.mul_div_cancel _ hsz
 simp only [jK,h2,E49];rw [e1,if_pos hn]
def V1 (d:Int):Nat:=(max 0 (min d 5)).toNat
theorem qS (d:Int):V1 d<=5:=by unfold V1;omega
theorem B1g {d:Int} (h0:0<=d) (h5:d<=5):((V1 d:Nat):Int)=d:=by unfold V1;omega
theorem D73 (d:Int):(max 0 (min d 5))=((V1 d:Nat):Int):=by unfold V1;omega
def B9 (d:Int):Nat:=2 ^ V1 d
theorem C69 {n:Nat} (h:n<=5):2 ^ n<=32:=by
 have:=Nat.pow_le_pow_right (n:=2) (by omega) h;simpa using this
theorem N8 (d:Int):B9 d<=32:=C69 (qS d)
theorem B01:[o0]++E41 32 o0=encI (0::zI 32):=by
 simp [encI,zI]
def toX (t:List Int) (i:Nat):Int:=t.getD i 0
theorem E00 {t:List Int} {i:Nat} (h:i<t.length):t[i]?=some (toX t i):=by
 unfold toX;rw [E47,E40 h];rfl
def uA (n:Int):Bool:=decide (0<=n)&&decide (n<=65535)
theorem B2X {n:Int} {h:A6}:A54 [iV n] h=some (bV (uA n),h):=by
 refine B6e (n:=0) (h2:=ro h) ?_ rfl;rw [C2h];unfold uA;by_cases c:0<=n
 ·simp only [esc,c,E5d]
 ·simp only [esc,c,E48]
theorem D6 {d:Int} {t:List Int} (ht:t.length=32):(encI (d::t)).length=33:=by rw [A8];simp [ht]
theorem C57 {d:Int} {t:List Int} {i:Nat} (ht:t.length=32) (hi:i<32):(encI (d::t))[1+i]?=some (.i .i64 (toX t i)):=by
 rw [F6,Nat.add_comm 1 i,E5N,E00 (by omega)];rfl
theorem B6M {d:Int} {t:List Int} {i:Nat} {v:Int}:(encI (d::t)).set (1+i) (.i .i64 v)=encI (d::t.set i v):=by
 rw [bC,Nat.add_comm 1 i,E5M]
theorem ldX {h:A6} {id:Nat} {d:Int} {t:List Int} {rw:Bool} (hr:rd h id=some ⟨encI (d::t),rw⟩) (ht:t.length=32) {i:Nat} (hi:i<32):B4 h (pV id (1+i))=some (iV (toX t i)) :=
 B5 hr (C57 ht hi) (by simp [Cell.isX])
theorem adX {id i:Nat} (hi:i<32):J3 32 1 (pV id (0+1)) (iV (i:Int))=some (pV id (1+i)):=by rw [J4 hi];simp
theorem bE {d:Int} {t:List Int} {h:A6}:A3g [.a (encI (d::t))] h=some (iV (V1 d:Nat),h):=by
 have key:∀ g,∃ g',A2P 0 [.a (encI (d::t))] g=some (iV (V1 d:Nat),g'):=by
  intro g;have e1:B6B (iV d) (iV 5)=some (iV (min d 5)):=by
   simp only [B6B];by_cases h:(5:Int)<d
   ·rw [if_pos h,Int.min_eq_right (by omega)]
   ·rw [if_neg h,Int.min_eq_left (by omega)]
  have e2:C5A (iV 0) (iV (min d 5))=some (iV (V1 d:Nat)):=by
   rw [<-D73];simp only [C5A];by_cases h:(min d 5:Int) > 0
   ·rw [if_pos h,Int.max_eq_right (by omega)]
   ·rw [if_neg h,Int.max_eq_left (by omega)]
  have e3:B4 (g++[rT (encI (d::t))]) (pV g.length 0)=some (iV d):=B5 (S8) rfl rfl;rw [B8c];generalize hz:encI (d::t)=z at *;exact ⟨_,by simp only [esc,e3,e1,e2]<;>rfl⟩
 obtain ⟨g',e⟩:=key (ro h);exact B4b e rfl
theorem D6b {k:Nat} (hk:k<=5):N5 .shl (iV 1) (.c (.i .u64 (k:Int)))=some (iV ((2 ^ k:Nat):Int)):=by
 rw [B6A (by omega)];have h1:Nat.min (k:Int).toNat (IntKind.i64).bits=k:=by
  have:(IntKind.i64).bits=64:=rfl;rw [this,E5j];exact E5U (by omega)
 have h2:=C69 hk;rw [h1,Int.one_mul];have e:(2:Int) ^ k=((2 ^ k:Nat):Int):=by simp
 rw [e];generalize 2 ^ k=y at h2 ⊢;rw [wrap_i64 (by omega) (by omega)]
theorem B92 {k:Nat} (hk:k<=64):IntKind.wrap .u64 (k:Int)=(k:Int):=wrap_u64 (by omega) (by omega)
theorem dH {d:Int} {t:List Int} {h:A6} (ht:t.length=32):A55 [.a (encI (d::t))] h=some (iV (B9 d:Nat),h):=by
 have key:∀ g,∃ g',A5w 0 [.a (encI (d::t))] g=some (iV (B9 d:Nat),g'):=by
  intro g;have hl:=D6 (d:=d) ht;have hd:=λh=>bE (d:=d) (t:=t) (h:=h)
  have e1:=D6b (qS d);have e2:=B92 (k:=V1 d) (by have:=qS d;omega);rw [C2i];unfold B9;generalize encI (d::t)=z at *;exact ⟨_,by simp only [esc,esh,Nat.reduceAdd,Nat.reduceMul,Nat.reduceLT,hl,hd,e1,e2]<;>rfl⟩
 obtain ⟨g',e⟩:=key (ro h);exact B6f e rfl
def nA (t:List Int) (i:Nat):Bool:=(E5v i).all λk=>!decide (toX t k=toX t i)
theorem C6d {d:Int} {t:List Int} {g:A6} {i q:Nat} (ht:t.length=32) (hi:i<32):∀ e k m:Nat,k+e=i->e<m ->
  B0s q m (iV (i:Int)) (pV g.length 0) (iV (i:Int)) (iV (k:Int)) (g++[rT (encI (d::t))]) =
   some (bV ((E5D k e).all λk=>!decide (toX t k=toX t i)),g++[rT (encI (d::t))])
 | e,k,0,_,hm=>by omega
 | 0,k,m+1,hk,hm=>by
  have c0:¬ (k:Int)<i:=by omega
  rw [A2n];simp only [esc,c0,List.range'_zero]
 | e+1,k,m+1,hk,hm=>by
  have ih:=C6d (d:=d) (g:=g) (q:=q) ht hi e (k+1) m (by omega) (by omega);have c0:(k:Int)<i:=by omega
  have a1:=adX (id:=g.length) (i:=k) (by omega);have a2:=adX (id:=g.length) (i:=i) (by omega);have l1:=ldX (h:=g++[rT (encI (d::t))]) (id:=g.length) S8 ht (i:=k) (by omega);have l2:=ldX (h:=g++[rT (encI (d::t))]) (id:=g.length) S8 ht (i:=i) (by omega);rw [A2n,List.range'_succ,E5J];by_cases c:toX t k=toX t i
  ·rw [decide_eq_true c,Bool.not_true,E48];rw [c] at l1;simp only [esc,c0,a1,a2,l1,l2]
  ·rw [decide_eq_false c,Bool.not_false,E5d];simp only [esc,c0,a1,a2,l1,l2,c,C6 (show k+1<9223372036854775808 by omega)];exact ih
theorem B0r {d:Int} {t:List Int} {i:Nat} {h:A6} (ht:t.length=32) (hi:i<32):A3h [.a (encI (d::t)),iV (i:Int)] h=some (bV (nA t i),h):=by
 have key:∀ N,i<N->∀ g,∃ g',A2Q N [.a (encI (d::t)),iV (i:Int)] g=some (bV (nA t i),g'):=by
  intro N hN g;have e:=C6d (d:=d) (g:=g) (q:=N) ht hi i 0 N (by omega) hN;rw [B8d];unfold nA;rw [List.range_eq_range'];exact ⟨_,by simp only [esc];exact e⟩
 obtain ⟨g',e⟩:=key (i+1) (by omega) (ro h);exact B4c e rfl
def V5 (n p b:Nat):List Nat:=(E5v n).filter λk=>k%2 ^ b==p%2 ^ b
def zF (l:List Nat):List Int:=l.map λ(n:Nat)=>(n:Int)
theorem A91 (l:List Nat):(zF l).length=l.length:=by simp [zF]
def bX (d b:Int):Nat:=(max 0 (min b (V1 d:Nat))).toNat
theorem E2S (d b:Int):bX d b<=V1 d:=by unfold bX;omega
def plX (d p b:Int):List Nat:=if 0<=p/\p<(B9 d:Nat) then V5 (B9 d) p.toNat (bX d b) else []
def B1O (n s r i:Nat):List Nat:=(E5v n).filter λk=>decide (k<i)&&(k%s==r)
theorem D6o {n s r i:Nat} (hs:0<s) (hi:i<n) (hr:i%s=r):B1O n s r (i+s)=B1O n s r i++[i]:=by
 unfold B1O;have e:E5v n=E5v i++(i::E5D (i+1) (n-i-1)):=by
  have e1:E5v n=E5D 0 (i+(n-i-1+1)):=by
   rw [List.range_eq_range'];congr 1;omega
  rw [e1,<-List.range'_append_1,List.range_eq_range',E5l,List.range'_succ]
 rw [e,List.filter_append,List.filter_append,List.filter_cons,List.filter_cons];have h1:(E5v i).filter (λk=>decide (k<i+s)&&(k%s==r))=(E5v i).filter (λk=>decide (k<i)&&(k%s==r)):=by
  refine List.filter_congr λk hk=>?_
  have:=List.mem_range.1 hk;rw [decide_eq_true (show k<i+s by omega),decide_eq_true this]
 have h2:(E5D (i+1) (n-i-1)).filter (λk=>decide (k<i+s)&&(k%s==r))=[]:=by
  rw [List.filter_eq_nil_iff];intro k hk;have hk:=List.mem_range'_1.1 hk;by_cases c:k<i+s
  ·have:k%s≠r:=by
    intro e;have e1:=Nat.div_add_mod k s;have e2:=Nat.div_add_mod i s;rw [e] at e1;rw [hr] at e2;have e3:s*(k/s)<s*(i/s)+s:=by omega
    have e4:s*(i/s)<s*(k/s):=by omega
    have e5:i/s<k/s:=Nat.lt_of_mul_lt_mul_left e4;have e6:s*(i/s+1)<=s*(k/s):=Nat.mul_le_mul_left _ e5;rw [Nat.mul_add] at e6;omega
   simp [this]
  ·simp [c]
 have h3:(E5D (i+1) (n-i-1)).filter (λk=>decide (k<i)&&(k%s==r))=[]:=by
  rw [List.filter_eq_nil_iff];intro k hk;have hk:=List.mem_range'_1.1 hk;rw [decide_eq_false (by omega)];simp
 rw [h1,h2,h3,hr];simp [hs]
theorem D7R {n s r i:Nat} (hi:n<=i):B1O n s r i=(E5v n).filter λk=>k%s==r:=by
 unfold B1O;refine List.filter_congr λk hk=>?_
 have:=List.mem_range.1 hk;rw [decide_eq_true (show k<i by omega),E5d]
theorem C5C {n s r:Nat}:B1O n s r r=[]:=by
 unfold B1O;rw [List.filter_eq_nil_iff];intro k hk;by_cases c:k<r
 ·have:k%s<=k:=Nat.mod_le _ _;have:¬ k%s=r:=by omega
  simp [this]
 ·simp [c]
theorem D2F (n s r i:Nat):(B1O n s r i).length<=n:=by
 unfold B1O;exact E5E (List.length_filter_le _ _) (by simp)
theorem C1L {d:Int} {t:List Int} {g:A6} {s r q:Nat} (ht:t.length=32) (hs:0<s) (hs2:s<=32):∀ (e i m:Nat) (h:A6) (id:Nat),B9 d<=i+e->i<=64->e<m->i%s=r->Low (g++[rT (encI (d::t))]).length (g++[rT (encI (d::t))]) h->(g++[rT (encI (d::t))]).length<=id->rd h id=rT (encI (zF (B1O (B9 d) s r i))) ->
  ∃ v h',A7z q m (pV g.length 0) (iV (s:Int)) (sV id 0 (B1O (B9 d) s r i).length 1) (iV (i:Int)) h=some (v,h') /\
   Out g.length h' v 1 ((E5v (B9 d)).filter λk=>k%s==r).length (encI (zF ((E5v (B9 d)).filter λk=>k%s==r)))
 | e,i,0,h,id,_,_,hm,_,_,_,_=>by omega
 | e,i,m+1,h,id,hi,hi2,hm,hr,hlow,hid,hrd=>by
  have hB:=D6 (d:=d) ht;have s1:=B8 (h:=h) (id:=g.length) (cs:=encI (d::t)) (hlow.rd (by simp)) hB;have hM:=λh=>dH (d:=d) (h:=h) ht
  have C6r:=N8 d;have hbl:=D2F (B9 d) s r i;rw [E43] at hid;rw [B4N];by_cases c:i<B9 d
  ·obtain ⟨e,rfl⟩:∃ e',e=e'+1:=⟨e-1,by omega⟩;have c0:(i:Int)<(B9 d:Nat):=by omega
   have en:=D6o hs c hr;obtain ⟨h1,a1,a2,a3,a4,a5⟩:=push (ys:=[.i .i64 (i:Int)]) (sz:=1) (n:=(B1O (B9 d) s r i).length) hlow hrd (by rw [A8,A91];omega) (by rw [E43];exact hid) rfl (by omega) (by omega);have he:encI (zF (B1O (B9 d) s r i))++[.i .i64 (i:Int)]=encI (zF (B1O (B9 d) s r (i+s))):=by rw [en];simp [encI,zF]
   rw [he] at a2;obtain ⟨v,h',f1,f2⟩:=C1L (q:=q) ht hs hs2 e (i+s) m h1 (h.length+1) (by omega) (by omega) (by omega) (by rw [Nat.add_mod_right];exact hr) a3 a4 a2;have hl1:(B1O (B9 d) s r (i+s)).length=(B1O (B9 d) s r i).length+1:=by rw [en];simp
   rw [hl1] at f1;have ef:D9 [o0] [(0,1,iV (i:Int))]=some [.i .i64 (i:Int)]:=rfl;refine ⟨v,h',?_,f2⟩;simp only [esc,s1,hM,c0,ef,a1,A1k (show i+s<9223372036854775808 by omega)];exact f1
  ·have c0:¬ (i:Int)<(B9 d:Nat):=by omega
   rw [D7R (by omega)] at hrd ⊢;refine ⟨_,_,by simp only [esc,s1,hM,c0]<;>rfl,by rw [A8,A91];omega,_,rfl,by omega,hrd⟩
theorem amm {b:Int} {d:Nat}:∃ w,B6B (iV b) (iV (d:Int))=some (iV w)/\C5A (iV 0) (iV w)=some (iV ((max 0 (min b d)).toNat:Nat)):=by
 refine ⟨min b d,?_,?_⟩
 ·simp only [B6B];by_cases h:(d:Int)<b
  ·rw [if_pos h,Int.min_eq_right (by omega)]
  ·rw [if_neg h,Int.min_eq_left (by omega)]
 ·simp only [C5A];by_cases h:(min b d:Int) > 0
  ·rw [if_pos h,Int.max_eq_right (by omega),Int.toNat_of_nonneg (by omega)]
  ·rw [if_neg h,Int.max_eq_left (by omega)];rfl
theorem A7y {d:Int} {t:List Int} {p b:Int} {h:A6} (ht:t.length=32) :
  A0J [.a (encI (d::t)),iV p,iV b] h=some (sV h.length 0 (plX d p b).length 1,h++[rT (encI (zF (plX d p b)))]):=by
 have key:∀ N,64<N->∀ g,∃ v g',A0v N [.a (encI (d::t)),iV p,iV b] g=some (v,g')/\Out g.length g' v 1 (plX d p b).length (encI (zF (plX d p b))):=by
  intro N hN g;have hB:=D6 (d:=d) ht;have hM:=λh=>dH (d:=d) (h:=h) ht
  have hD:=λh=>bE (d:=d) (t:=t) (h:=h)
  have C6r:=N8 d;rw [B5M];unfold plX;by_cases c1:p<0
  ·rw [if_neg (by omega)];have e1:List.map (λ(n:Nat)=>(n:Int)) []=[]:=rfl;refine ⟨sV (g.length+2) 0 0 1,g++[rT (encI (d::t)),rT [],rT []],?_,rfl,g.length+2,rfl,by omega,by simp [encI,zF]⟩;generalize encI (d::t)=z at *;simp only [esc,c1]
  ·by_cases c2:((B9 d:Nat):Int)<=p
   ·rw [if_neg (by omega)];refine ⟨sV (g.length+2) 0 0 1,g++[rT (encI (d::t)),rT [],rT []],?_,rfl,g.length+2,rfl,by omega,by simp [encI,zF]⟩;generalize encI (d::t)=z at *;simp only [esc,esh,Nat.reduceAdd,Nat.reduceMul,Nat.reduceLT,hB,hM,c1,c2]
   ·rw [if_pos (by omega)];obtain ⟨p,rfl⟩:∃ n:Nat,p=n:=⟨p.toNat,by omega⟩;rw [E5j];obtain ⟨w,m1,m2⟩:=amm (b:=b) (d:=V1 d);have hbx:=E2S d b;have hdl:=qS d;change C5A _ _=some (iV ((bX d b:Nat):Int)) at m2;have e1:=D6b (k:=bX d b) (by omega);have e2:=B92 (k:=bX d b) (by omega);have hp0:0<2 ^ bX d b:=Nat.pow_pos (by omega);have hp1:=C69 (show bX d b<=5 by omega);have e3:N5 .rem (iV (p:Int)) (iV ((2 ^ bX d b:Nat):Int))=some (iV ((p%2 ^ bX d b:Nat):Int)):=by
     rw [A7M (by omega) (by omega)];simp
    have hpm:p%2 ^ bX d b<2 ^ bX d b:=Nat.mod_lt _ hp0;unfold V5;generalize 2 ^ bX d b=s at *;obtain ⟨v,g',f1,f2⟩:=C1L (g:=g) (d:=d) (t:=t) (q:=N) (s:=s) (r:=p%s) ht hp0 hp1 (B9 d) (p%s) N (g++[rT (encI (d::t)),rT [],rT []]) (g.length+2) (by omega) (by omega) (by omega) (Nat.mod_mod _ _)
     (by have:=(Low.refl (h:=g++[rT (encI (d::t))]) (E44 _)).new [rT [],rT []];simpa using this) (by simp) (by rw [C5C];simp [encI,zF])
    rw [C5C] at f1;refine ⟨v,g',?_,f2⟩;generalize encI (d::t)=z at *;simp only [esc,esh,Nat.reduceAdd,Nat.reduceMul,Nat.reduceLT,hB,hM,hD,c1,c2,m1,m2,e1,e2,e3] at f1 ⊢;exact f1
 obtain ⟨v,g',e,ho⟩:=key (h.length+65) (by omega) (ro h);exact B39 e (by simpa [E7] using ho) (by simp)
theorem C8y {l:List Nat} {i:Nat} (hi:i<l.length):(encI (zF l))[i]?=some (.i .i64 ((l[i]:Nat):Int)):=by
 rw [F6];unfold zF;rw [List.getElem?_map,E40 hi];rfl
def A6T (t:List Int) (l:List Nat) (no:Int):Bool:=l.all λk=>decide (toX t k=no)
theorem C7E {d no:Int} {t:List Int} {g:A6} {v:Val} {l:List Nat} {q:Nat} (ht:t.length=32) (hl:∀ k∈l,k<32) (hv:Has g v 1 l.length (encI (zF l))) (hll:l.length<9223372036854775807):∀ e i m:Nat,i+e=l.length->e<m ->
  B0t q m (iV no) (pV g.length 0) v (iV (l.length:Nat)) (iV (i:Int)) (g++[rT (encI (d::t))])=some (bV (A6T t (l.drop i) no),g++[rT (encI (d::t))])
 | e,i,0,_,hm=>by omega
 | 0,i,m+1,hi,hm=>by
  have c0:¬ (i:Int)<(l.length:Nat):=by omega
  rw [A2o,E5c (by omega)];simp only [esc,c0,A6T]
 | e+1,i,m+1,hi,hm=>by
  have ih:=C7E (d:=d) (no:=no) (q:=q) ht hl hv hll e (i+1) m (by omega) (by omega);have c0:(i:Int)<(l.length:Nat):=by omega
  obtain ⟨id,off,ev,hid,k1,k2⟩:=(hv.more [rT (encI (d::t))]).sl (by omega);have hx:=k1 i _ (C8y (by omega));have eb:D5 1 v (iV (i:Int))=some (pV id (off+i)):=by rw [ev,C4 (by omega)];simp
  have hk:=hl l[i] (E5F (by omega));have a1:=adX (id:=g.length) (i:=l[i]) hk;have l1:=ldX (h:=g++[rT (encI (d::t))]) (id:=g.length) S8 ht (i:=l[i]) hk;rw [A2o,E46 (by omega:i<l.length),A6T,E5J];rw [A6T] at ih;by_cases c:toX t l[i]=no
  ·rw [decide_eq_true c,E5d];rw [c] at l1;simp only [esc,c0,eb,hx,a1,l1,C6 (show i+1<9223372036854775808 by omega)];exact ih
  ·rw [decide_eq_false c,E48];simp only [esc,c0,eb,hx,a1,l1,c]
theorem C6z {d no:Int} {t:List Int} {h:A6} {v:Val} {l:List Nat} (ht:t.length=32) (hl:∀ k∈l,k<32) (hv:Has h v 1 l.length (encI (zF l))) (hll:l.length<9223372036854775807) :
  A3i [.a (encI (d::t)),v,iV no] h=some (bV (A6T t l no),h):=by
 have key:∀ N,l.length<N->∀ g,Has g v 1 l.length (encI (zF l))->∃ g',A2R N [.a (encI (d::t)),v,iV no] g=some (bV (A6T t l no),g'):=by
  intro N hN g hv;have e:=C7E (d:=d) (no:=no) (q:=N) ht hl hv hll l.length 0 N (by omega) hN;rw [E5k] at e;rw [B8e];exact ⟨_,by simp only [esc,hv.len];exact e⟩
 obtain ⟨g',e⟩:=key (l.length+1) (by omega) (ro h) hv.ro;exact B4d e rfl
theorem D4U {n p b:Nat} (hn:n<=32):∀ k∈V5 n p b,k<32:=by
 intro k hk;have:=List.mem_range.1 (List.mem_filter.1 hk).1;omega
theorem C67 (n p b:Nat):(V5 n p b).length<=n:=E5E (List.length_filter_le _ _) (by simp)
theorem D84 {d:Int} {p b:Nat} (hp:p<B9 d) (hb:b<=V1 d):plX d p b=V5 (B9 d) p b:=by
 unfold plX;have:bX d b=b:=by unfold bX;omega
 rw [if_pos ⟨by omega,by omega⟩,this,E5j]
def C22 (n:Nat) (t:List Int) (p b:Nat):Bool:=!decide (toX t p=0)&&A6T t (V5 n p b) (toX t p)
def aW (n:Nat) (t:List Int) (p:Nat):Nat->Nat->Nat
 | b,0=>b
 | b,e+1=>bif C22 n t p b then b else aW n t p (b+1) e
def bJ (d:Int) (t:List Int) (p:Nat):Nat:=aW (B9 d) t p 0 (V1 d)
theorem B9w {d:Int} {t:List Int} {g:A6} {p q:Nat} (ht:t.length=32) (hp:p<B9 d):∀ (e b m:Nat) (h:A6),b+e=V1 d->e<m->Low (g++[rT (encI (d::t))]).length (g++[rT (encI (d::t))]) h ->
  ∃ h',B2W q m (iV (p:Int)) (pV g.length 0) (iV (V1 d:Nat)) (iV (b:Int)) h=some (iV (aW (B9 d) t p b e:Nat),h')
 | e,b,0,h,_,hm,_=>by omega
 | 0,b,m+1,h,hb,hm,hlow=>by
  have e0:b=V1 d:=by omega
  subst e0;have c0:¬ ((V1 d:Nat):Int)<(V1 d:Nat):=by omega
  have hB:=D6 (d:=d) ht;have s1:=B8 (h:=h) (id:=g.length) (cs:=encI (d::t)) (hlow.rd (by simp)) hB;have hD:=λh=>bE (d:=d) (t:=t) (h:=h)
  rw [A4N];generalize encI (d::t)=z at *;exact ⟨_,by simp only [esc,c0,s1,hD,aW]<;>rfl⟩
 | e+1,b,m+1,h,hb,hm,hlow=>by
  have C6r:=N8 d;have hdl:=qS d;have c0:(b:Int)<(V1 d:Nat):=by omega
  have hB:=D6 (d:=d) ht;have hrd:rd h g.length=rT (encI (d::t)):=hlow.rd (by simp);have s1:=B8 (h:=h) (id:=g.length) (cs:=encI (d::t)) hrd hB;have a1:=adX (id:=g.length) (i:=p) (by omega);have l1:=ldX (h:=h) (id:=g.length) hrd ht (i:=p) (by omega);have hP:=A7y (d:=d) (p:=p) (b:=b) (h:=h) ht;rw [D84 hp (by omega)] at hP;have hq:=U9 ((Grows.rfl' (h:=h)).new (encI (zF (V5 (B9 d) p b)))) (v:=sV h.length 0 (V5 (B9 d) p b).length 1);have hW:=C6z (d:=d) (no:=toX t p) (h:=h++[rT (encI (zF (V5 (B9 d) p b)))]) (v:=sV h.length 0 (V5 (B9 d) p b).length 1) ht (D4U (p:=p) (b:=b) C6r) (Has.row (rw:=true) S8 (by rw [A8,A91];omega) (bF _)) (by have:=C67 (B9 d) p b;omega);have l2:=ldX (h:=h++[rT (encI (zF (V5 (B9 d) p b)))]) (id:=g.length) (B6 hrd) ht (i:=p) (by omega);rw [A4N,aW];unfold C22;by_cases cz:toX t p=0
  ·obtain ⟨h',ih⟩:=B9w (q:=q) ht hp e (b+1) m h (by omega) (by omega) hlow;rw [decide_eq_true cz,Bool.not_true,E48,cond_false];rw [cz] at l1;refine ⟨h',?_⟩;generalize encI (d::t)=z at *;simp only [esc,c0,a1,l1,C6 (show b+1<9223372036854775808 by omega)];exact ih
  ·rw [decide_eq_false cz,Bool.not_false,E5d];cases cw:A6T t (V5 (B9 d) p b) (toX t p) with
   | true =>
    rw [cw] at hW;rw [cond_true];generalize encI (d::t)=z at *;exact ⟨_,by simp only [esc,c0,a1,l1,cz,s1,hP,hq,l2,hW]<;>rfl⟩
   | false =>
    rw [cw] at hW;obtain ⟨h',ih⟩:=B9w (q:=q) ht hp e (b+1) m (h++[rT (encI (zF (V5 (B9 d) p b)))]) (by omega) (by omega) (hlow.new _);rw [cond_false];refine ⟨h',?_⟩;generalize encI (d::t)=z at *;simp only [esc,c0,a1,l1,cz,s1,hP,hq,l2,hW,C6 (show b+1<9223372036854775808 by omega)];exact ih
def D7S (d:Int) (t:List Int) (p:Int):Nat:=if 0<=p/\p<(B9 d:Nat) then bJ d t p.toNat else 0
theorem C8K {d:Int} {t:List Int} {p:Int} {h:A6} (ht:t.length=32):A53 [.a (encI (d::t)),iV p] h=some (iV (D7S d t p:Nat),h):=by
 have key:∀ N,5<N->∀ g,∃ g',A5v N [.a (encI (d::t)),iV p] g=some (iV (D7S d t p:Nat),g'):=by
  intro N hN g;have hB:=D6 (d:=d) ht;have hM:=λh=>dH (d:=d) (h:=h) ht
  have hD:=λh=>bE (d:=d) (t:=t) (h:=h)
  have hdl:=qS d;rw [C2g];unfold D7S;by_cases c1:p<0
  ·rw [if_neg (by omega)];generalize encI (d::t)=z at *;exact ⟨_,by simp only [esc,c1]<;>rfl⟩
  ·by_cases c2:((B9 d:Nat):Int)<=p
   ·rw [if_neg (by omega)];generalize encI (d::t)=z at *;exact ⟨_,by simp only [esc,esh,Nat.reduceAdd,Nat.reduceMul,Nat.reduceLT,hB,hM,c1,c2]<;>rfl⟩
   ·rw [if_pos (by omega)];obtain ⟨p,rfl⟩:∃ n:Nat,p=n:=⟨p.toNat,by omega⟩;rw [E5j];obtain ⟨h',e⟩:=B9w (g:=g) (q:=N) ht (show p<B9 d by omega) (V1 d) 0 N (g++[rT (encI (d::t))]) (by omega) (by omega) (Low.refl (E44 _));unfold bJ;refine ⟨h',?_⟩;generalize encI (d::t)=z at *;simp only [esc,esh,Nat.reduceAdd,Nat.reduceMul,Nat.reduceLT,hB,hM,hD,c1,c2];exact e
 obtain ⟨g',e⟩:=key (h.length+6) (by omega) (ro h);exact B6d e rfl
theorem D9Y {d:Int} {t:List Int} {p:Nat} (hp:p<B9 d):D7S d t p=bJ d t p:=by
 unfold D7S;rw [if_pos ⟨by omega,by omega⟩,E5j]
def qR (n:Nat) (t:List Int) (no:Int):Nat:=((E5v n).filter λk=>decide (toX t k=no)).length
theorem D2V {n:Nat} {t:List Int} {no:Int}:qR (n+1) t no=qR n t no+(if toX t n=no then 1 else 0):=by
 unfold qR;rw [List.range_succ,List.filter_append,E43,List.filter_cons];by_cases c:toX t n=no<;>simp [c]
theorem D6w {n:Nat} {t:List Int} {no:Int}:qR n t no<=n:=E5E (List.length_filter_le _ _) (by simp)
theorem C51 {d no:Int} {t:List Int} {g:A6} {n q:Nat} (ht:t.length=32) (hn:n<=32):∀ e i m:Nat,i+e=n->e<m ->
  B0q q m (iV no) (pV g.length 0) (iV (qR i t no:Nat)) (iV (n:Int)) (iV (i:Int)) (g++[rT (encI (d::t))])=some (iV (qR n t no:Nat),g++[rT (encI (d::t))])
 | e,i,0,_,hm=>by omega
 | 0,i,m+1,hi,hm=>by
  have e0:i=n:=by omega
  subst e0;have c0:¬ (i:Int)<i:=by omega
  rw [A2m];simp only [esc,c0]
 | e+1,i,m+1,hi,hm=>by
  have ih:=C51 (d:=d) (no:=no) (g:=g) (q:=q) ht hn e (i+1) m (by omega) (by omega);have c0:(i:Int)<n:=by omega
  have a1:=adX (id:=g.length) (i:=i) (by omega);have l1:=ldX (h:=g++[rT (encI (d::t))]) (id:=g.length) S8 ht (i:=i) (by omega);have hc:=D6w (n:=i) (t:=t) (no:=no);rw [D2V] at ih;rw [A2m];generalize qR i t no=C at *;by_cases c:toX t i=no
  ·rw [if_pos c] at ih;rw [c] at l1;simp only [esc,c0,a1,l1,A2l,C6 (show C+1<9223372036854775808 by omega),C6 (show i+1<9223372036854775808 by omega)];exact ih
  ·rw [if_neg c,Nat.add_zero] at ih;simp only [esc,c0,a1,l1,c,A2l,C6 (show i+1<9223372036854775808 by omega)];exact ih
theorem C6x {d no:Int} {t:List Int} {h:A6} (ht:t.length=32):A3f [.a (encI (d::t)),iV no] h=some (iV (qR (B9 d) t no:Nat),h):=by
 have key:∀ N,32<N->∀ g,∃ g',A2O N [.a (encI (d::t)),iV no] g=some (iV (qR (B9 d) t no:Nat),g'):=by
  intro N hN g;have hB:=D6 (d:=d) ht;have hM:=λh=>dH (d:=d) (h:=h) ht
  have hm:=N8 d;have e:=C51 (d:=d) (no:=no) (g:=g) (q:=N) ht hm (B9 d) 0 N (by omega) (by omega);rw [show qR 0 t no=0 from rfl] at e;rw [B8b];generalize encI (d::t)=z at *;exact ⟨_,by simp only [esc,esh,Nat.reduceAdd,Nat.reduceMul,Nat.reduceLT,hB,hM];exact e⟩
 obtain ⟨g',e⟩:=key (h.length+33) (by omega) (ro h);exact B4a e rfl
def A2A (d:Int) (t:List Int) (i:Nat):Bool:=decide ((V5 (B9 d) i (bJ d t i)).length=qR (B9 d) t (toX t i))
def A2r (d:Int) (t:List Int) (i:Nat):Bool:=!decide (toX t i=0)&&(uA (toX t i)&&(nA t i||A2A d t i))
def rJ (d:Int) (t:List Int) (i:Nat):Int:=bif A2r d t i then toX t i else 0
def pG (d:Int) (t:List Int) (k:Nat):List Int:=(E5v k).map (rJ d t)++zI (32-k)
theorem wG {d:Int} {t:List Int} {k:Nat} (hk:k<=32):(pG d t k).length=32:=by simp [pG,zI];omega
theorem C9X {d:Int} {t:List Int}:pG d t 0=zI 32:=rfl
theorem C9W {d:Int} {t:List Int} {k:Nat} (hk:k<32):pG d t (k+1)=(pG d t k).set k (rJ d t k):=by
 unfold pG;have e:zI (32-k)=0::zI (32-(k+1)):=by
  unfold zI;rw [show 32-k=(32-(k+1))+1 by omega,E5p]
 rw [e,E5A _ _ (by simp),List.range_succ,E5T,E45];simp
theorem C9V {d:Int} {t:List Int} {k:Nat} (hk:k<32) (hf:rJ d t k=0):pG d t (k+1)=pG d t k:=by
 unfold pG;have e:zI (32-k)=0::zI (32-(k+1)):=by
  unfold zI;rw [show 32-k=(32-(k+1))+1 by omega,E5p]
 rw [e,List.range_succ,E5T,E45];simp [hf]
theorem C6f {d:Int} {t:List Int} {g:A6} {q:Nat} (ht:t.length=32):∀ (e i m:Nat) (h:A6),i+e=B9 d->e<m->Low (g++[rT (encI (d::t)),rT (encI (0::zI 32))]).length (g++[rT (encI (d::t)),rT (encI (0::zI 32))]) h->rd h (g.length+2)=rT (encI (d::pG d t i)) ->
  ∃ h',zO q m (pV g.length 0) (pV (g.length+1) 0) (pV (g.length+2) 0) (iV (B9 d:Nat)) (iV (i:Int)) h=some (.a (encI (d::pG d t (B9 d))),h')
 | e,i,0,h,_,hm,_,_=>by omega
 | 0,i,m+1,h,hi,hm,hlow,hr=>by
  have e0:i=B9 d:=by omega
  subst e0;have c0:¬ ((B9 d:Nat):Int)<(B9 d:Nat):=by omega
  have hF:=D6 (d:=d) (wG (d:=d) (t:=t) (N8 d));have hz:(encI (0::zI 32)).length=33:=D6 (d:=0) G9;have hr1:rd h (g.length+1)=rT (encI (0::zI 32)):=hlow.rd (by simp);have s1:=B8 (h:=h) (id:=g.length+2) hr hF;have s2:=storeAll (h:=h) (id:=g.length+1) (xs:=encI (d::pG d t (B9 d))) hr1 hz hF;have s3:=B8 (h:=h.set (g.length+1) (rT (encI (d::pG d t (B9 d))))) (id:=g.length+1) (B7 (C5 hr1)) hF;rw [A7v];generalize encI (d::pG d t (B9 d))=z at *;exact ⟨_,by simp only [esc,c0,s1,s2,s3]<;>rfl⟩
 | e+1,i,m+1,h,hi,hm,hlow,hr=>by
  have C6r:=N8 d;have c0:(i:Int)<(B9 d:Nat):=by omega
  have hB:=D6 (d:=d) ht;have hrd:rd h g.length=rT (encI (d::t)):=hlow.rd (by simp);have s1:=B8 (h:=h) (id:=g.length) (cs:=encI (d::t)) hrd hB;have a1:=adX (id:=g.length) (i:=i) (by omega);have l1:=ldX (h:=h) (id:=g.length) hrd ht (i:=i) (by omega);have hFi:=λh=>B2X (n:=toX t i) (h:=h)
  have hFs:=λh=>B0r (d:=d) (t:=t) (i:=i) (h:=h) ht (by omega)
  have w1:=C6 (show i+1<9223372036854775808 by omega);have hk:i<32:=by omega
  have skip:rJ d t i=0->∀ h2,Low (g++[rT (encI (d::t)),rT (encI (0::zI 32))]).length (g++[rT (encI (d::t)),rT (encI (0::zI 32))]) h2->rd h2 (g.length+2)=rT (encI (d::pG d t i)) ->
    ∃ h',zO q m (pV g.length 0) (pV (g.length+1) 0) (pV (g.length+2) 0) (iV (B9 d:Nat)) (iV ((i+1:Nat):Int)) h2=some (.a (encI (d::pG d t (B9 d))),h'):=by
   intro hf h2 hlow2 zN;exact C6f (q:=q) ht e (i+1) m h2 (by omega) (by omega) hlow2 (by rw [C9V hk hf];exact zN)
  have a3:=adX (id:=g.length+2) (i:=i) hk;have put:rJ d t i=toX t i->∀ h2,Low (g++[rT (encI (d::t)),rT (encI (0::zI 32))]).length (g++[rT (encI (d::t)),rT (encI (0::zI 32))]) h2->rd h2 (g.length+2)=rT (encI (d::pG d t i)) ->
    ∃ h3,F9 h2 (pV (g.length+2) (1+i)) (iV (toX t i))=some h3/\∃ h',zO q m (pV g.length 0) (pV (g.length+1) 0) (pV (g.length+2) 0) (iV (B9 d:Nat)) (iV ((i+1:Nat):Int)) h3=some (.a (encI (d::pG d t (B9 d))),h'):=by
   intro hf h2 hlow2 zN;have hF:=D6 (d:=d) (wG (d:=d) (t:=t) (k:=i) (by omega));have t1:=F5 (x:=.i .i64 (toX t i)) (off:=1+i) zN (by rw [hF];omega);rw [B6M,<-hf,<-C9W hk,hf] at t1;refine ⟨_,t1,C6f (q:=q) ht e (i+1) m _ (by omega) (by omega) (hlow2.set (by simp) _) (B7 (C5 zN))⟩
  rw [A7v];by_cases cz:toX t i=0
  ·have hf:rJ d t i=0:=by unfold rJ A2r;rw [decide_eq_true cz];rfl
   obtain ⟨h',ih⟩:=skip hf h hlow hr;rw [cz] at l1;refine ⟨h',?_⟩;generalize encI (d::t)=z at *;simp only [esc,c0,a1,l1,gM,w1];exact ih
  ·cases cf:uA (toX t i) with
   | false =>
    rw [cf] at hFi;have hf:rJ d t i=0:=by unfold rJ A2r;rw [cf,E48,E5Y,cond_false]
    obtain ⟨h',ih⟩:=skip hf h hlow hr;refine ⟨h',?_⟩;generalize encI (d::t)=z at *;simp only [esc,c0,a1,l1,cz,hFi,gM,w1];exact ih
   | true =>
    rw [cf] at hFi;cases cs:nA t i with
    | true =>
     rw [cs] at hFs;have hf:rJ d t i=toX t i:=by unfold rJ A2r;rw [cf,cs,decide_eq_false cz];rfl
     obtain ⟨h3,st,h',ih⟩:=put hf h hlow hr;refine ⟨h',?_⟩;generalize encI (d::t)=z at *;simp only [esc,c0,a1,l1,cz,hFi,s1,hFs,a3,st,gM,w1];exact ih
    | false =>
     rw [cs] at hFs;have hBi:=λh=>C8K (d:=d) (t:=t) (p:=(i:Int)) (h:=h) ht
     rw [D9Y (by omega)] at hBi;have hbl:bJ d t i<=V1 d:=by
      have:∀ e b,aW (B9 d) t i b e<=b+e:=by
       intro e
       induction e with
       | zero=>intro b;exact E44 _
       | succ e ih =>
        intro b;unfold aW;cases C22 (B9 d) t i b
        ·rw [cond_false];have:=ih (b+1);omega
        ·rw [cond_true];omega
      have:=this (V1 d) 0;unfold bJ;omega
     have hP:=A7y (d:=d) (p:=(i:Int)) (b:=(bJ d t i:Nat)) (h:=h) ht;rw [D84 (by omega) hbl] at hP;have hq:=U9 ((Grows.rfl' (h:=h)).new (encI (zF (V5 (B9 d) i (bJ d t i))))) (v:=sV h.length 0 (V5 (B9 d) i (bJ d t i)).length 1);have hC:=λh=>C6x (d:=d) (no:=toX t i) (h:=h) ht
     have ew:decide (((V5 (B9 d) i (bJ d t i)).length:Int)=((qR (B9 d) t (toX t i):Nat):Int))=A2A d t i:=by
      unfold A2A;by_cases c:(V5 (B9 d) i (bJ d t i)).length=qR (B9 d) t (toX t i)
      ·rw [decide_eq_true c,decide_eq_true (by omega)]
      ·rw [decide_eq_false c,decide_eq_false (by omega)]
     have hlow2:=hlow.new [rT (encI (zF (V5 (B9 d) i (bJ d t i))))];have zN:rd (h++[rT (encI (zF (V5 (B9 d) i (bJ d t i))))]) (g.length+2)=rT (encI (d::pG d t i)):=B6 hr;cases cw:A2A d t i with
     | true =>
      rw [cw] at ew;have hf:rJ d t i=toX t i:=by unfold rJ A2r;rw [cf,cs,cw,decide_eq_false cz];rfl
      obtain ⟨h3,st,h',ih⟩:=put hf _ hlow2 zN;refine ⟨h',?_⟩;generalize encI (d::t)=z at *;simp only [esc,c0,a1,l1,cz,hFi,s1,hFs,hBi,hP,hq,hC,ew,a3,st,gM,w1];exact ih
     | false =>
      rw [cw] at ew;have hf:rJ d t i=0:=by unfold rJ A2r;rw [cf,cs,cw,decide_eq_false cz];rfl
      obtain ⟨h',ih⟩:=skip hf _ hlow2 zN;refine ⟨h',?_⟩;generalize encI (d::t)=z at *;simp only [esc,c0,a1,l1,cz,hFi,s1,hFs,hBi,hP,hq,hC,ew,gM,w1];exact ih
def C8H (d:Int) (t:List Int):List Int:=if 0<=d/\d<=5 then d::pG d t (B9 d) else 0::zI 32
theorem D1t {d:Int} {t:List Int} {h:A6} (ht:t.length=32):A9c [.a (encI (d::t))] h=some (.a (encI (C8H d t)),h):=by
 have key:∀ N,32<N->∀ g,∃ g',A8o N [.a (encI (d::t))] g=some (.a (encI (C8H d t)),g'):=by
  intro N hN g;have hB:=D6 (d:=d) ht;have hz:(encI (0::zI 32)).length=33:=D6 (d:=0) G9;have hM:=λh=>dH (d:=d) (h:=h) ht
  have hD:=λh=>bE (d:=d) (t:=t) (h:=h)
  have l0:(encI (d::t))[0]?=some (.i .i64 d):=rfl;have haf:D9 (encI (0::zI 32)) []=some (encI (0::zI 32)):=rfl;rw [C4j,B01];unfold C8H;by_cases c:0<=d/\d<=5
  ·rw [if_pos c];have hd:=B1g c.1 c.2;rw [hd] at hD;have ef:D9 (encI (0::zI 32)) [(0,1,iV d)]=some (encI (d::zI 32)):=by
    have e1:(0+1<=(encI (0::zI 32)).length):=by rw [hz];omega
    simp only [D9,cells?];rw [if_pos ⟨rfl,e1⟩];rfl
   have hz2:(encI (d::zI 32)).length=33:=D6 (d:=d) G9;obtain ⟨h',e⟩:=C6f (g:=g) (d:=d) (t:=t) (q:=N) ht (B9 d) 0 N (g++[rT (encI (d::t)),rT (encI (0::zI 32)),rT (encI (d::zI 32))]) (by omega) (by have:=N8 d;omega)
    (by have:=(Low.refl (h:=g++[rT (encI (d::t)),rT (encI (0::zI 32))]) (E44 _)).new [rT (encI (d::zI 32))];simpa using this) (by rw [C9X];simp)
   refine ⟨h',?_⟩;generalize encI (d::zI 32)=z2 at *;generalize encI (0::zI 32)=z at *;generalize encI (d::t)=y at *;simp only [esc,esh,Nat.reduceAdd,Nat.reduceMul,Nat.reduceLT,hB,hz,l0,hM,hD,ef,hz2];exact e
  ·rw [if_neg c];have cd:¬ d=((V1 d:Nat):Int):=by unfold V1;omega
   generalize encI (0::zI 32)=z at *;generalize encI (d::t)=y at *;exact ⟨_,by simp only [esc,esh,Nat.reduceAdd,Nat.reduceMul,Nat.reduceLT,hB,hz,l0,hM,hD,cd,haf]<;>rfl⟩
 obtain ⟨g',e⟩:=key (h.length+33) (by omega) (ro h);exact B8Y e (by simp)
theorem D29 {d:Int} {t:List Int}:(C8H d t).length=33:=by
 unfold C8H;split
 ·rw [E5a,wG (N8 d)]
 ·rw [E5a,G9]
def rA (d:List Int):List UInt8:=(d.map (A9 2)).flatten
theorem oZ {d:List Int}:(rA d).length=2*d.length:=by
 induction d with
 | nil=>rfl
 | cons x d ih=>simp only [rA,E50,List.flatten_cons,E43,O7,E5a] at ih ⊢;omega
theorem D0e {d:List Int} {x:Int}:rA (d++[x])=rA d++A9 2 x:=by simp [rA]
def magX:List UInt8:=[105,100,120,33]
def xS (d:Int):List UInt8:=magX++A9 1 d++zeros 27
theorem oX {d:Int}:(xS d).length=32:=by simp [xS,magX]
def eZ (d:Int) (t:List Int):List UInt8:=N9 256 (xS d++rA t)
theorem kP {d:Int} {t:List Int} (ht:t.length=32):(eZ d t).length=256:=F7 (by rw [E43,oX,oZ];omega)
theorem D4S {n k:Nat} {l:List UInt8} (h:l.length+k<=n):N9 n (l++zeros k)=N9 n l:=by
 unfold N9 zeros;rw [E45,List.replicate_append_replicate,E43,E5r]
 congr 2;omega
def okX (d:Int) (t:List Int):Bool:=decide (0<=d)&&(decide (d<=5)&&t.all uA)
theorem C96 {d:Int} {t:List Int} {g:A6} {y:List Cell} {q:Nat} (ht:t.length=32) (hyl:y.length=33):∀ e i m:Nat,i+e=32->e<m ->
  ∃ h',B68 q m (pV (g.length+1) 0) (pV (g.length+3) 0) (.a (encI t)) (iV (i:Int)) (g++[rT y,rT (A5 (zeros 256)),rT (A5 magX),rT (A5 (N9 256 (xS d++rA (t.take i))))]) =
   some (.t [.a (A5 (bif (t.drop i).all uA then eZ d t else zeros 256)),.c (.i .i64 (bif (t.drop i).all uA then 0 else 1))],h')
 | e,i,0,_,hm=>by omega
 | 0,i,m+1,hi,hm=>by
  have e0:i=32:=by omega
  subst e0;have c0:¬ ((32:Nat):Int)<32:=by omega
  have hz:(A5 (zeros 256)).length=256:=by rw [A4];exact zeros_length
  have hB:(A5 (eZ d t)).length=256:=by rw [A4];exact kP ht
  have eB:N9 256 (xS d++rA t)=eZ d t:=rfl;rw [A7A,E5b (by omega),E5c (by omega),List.all_nil,cond_true,cond_true,eB];generalize eZ d t=B at *;generalize A5 magX=mg at *;generalize zeros 256=z at *;exact ⟨_,by simp only [esc,esh,Nat.reduceAdd,Nat.reduceMul,Nat.reduceLT,c0,hz,hB]<;>rfl⟩
 | e+1,i,m+1,hi,hm=>by
  obtain ⟨h',ih⟩:=C96 (d:=d) (g:=g) (q:=q) ht hyl e (i+1) m (by omega) (by omega);have c0:(i:Int)<32:=by omega
  have hz:(A5 (zeros 256)).length=256:=by rw [A4];exact zeros_length
  have haf:D9 (E41 256 (Cell.i .u8 0)) []=some (E41 256 (Cell.i .u8 0)):=rfl;rw [I5] at haf;have hx:A3v 32 (.a (encI t)) (iV (i:Int))=some (iV t[i]):=by
   rw [B63 (by omega),F6,E40 (by omega)];rfl
  have hF:=λh=>B2X (n:=t[i]) (h:=h)
  have hnl:(xS d++rA (t.take i)).length=32+2*i:=by rw [E43,oX,oZ,E5q];omega
  have hP0:(N9 256 (xS d++rA (t.take i))).length=256:=F7 (by omega);have hp:(A5 (N9 256 (xS d++rA (t.take i)))).length=256:=by rw [A4,hP0]
  have hW:=λh=>X7 (h:=h) (l:=N9 256 (xS d++rA (t.take i))) hP0 (a:=((32+2*i:Nat):Int)) (w:=2) (v:=t[i])
  have ew:=iG (l:=xS d++rA (t.take i)) (a:=32+2*i) (w:=2) (v:=t[i]) (by omega) (by omega) (by omega) (by omega);rw [hnl,E5K,show zeros 0=[] from rfl,E5t,E45,<-D0e,<-E5f (by omega)] at ew;rw [show ((2:Nat):Int)=2 from rfl] at ew;rw [ew] at hW;have hp2:(A5 (N9 256 (xS d++rA (t.take (i+1))))).length=256:=by rw [A4,F7 (by rw [E43,oX,oZ,E5q];omega)]
  have w1:IntKind.wrap .i64 (2*(i:Int))=((2*i:Nat):Int):=by rw [wrap_i64 (by omega) (by omega)];omega
  have w2:IntKind.wrap .i64 (32+((2*i:Nat):Int))=((32+2*i:Nat):Int):=by rw [wrap_i64 (by omega) (by omega)];omega
  rw [A7A,I5,E46 (by omega:i<t.length),E5J];generalize N9 256 (xS d++rA (t.take (i+1)))=P1 at *;generalize N9 256 (xS d++rA (t.take i))=P0 at *;generalize eZ d t=B at *;generalize A5 magX=mg at *;generalize zeros 256=z at *;cases c:uA t[i] with
  | false =>
   rw [c] at hF;rw [E48,cond_false,cond_false];exact ⟨_,by simp only [esc,esh,Nat.reduceAdd,Nat.reduceMul,Nat.reduceLT,c0,hx,hF,haf,hz]<;>rfl⟩
  | true =>
   rw [c] at hF;rw [E5d];refine ⟨h',?_⟩;simp only [esc,esh,Nat.reduceAdd,Nat.reduceMul,Nat.reduceLT,c0,hx,hF,hp,w1,w2,hW,hp2,C6 (show i+1<9223372036854775808 by omega)];exact ih
theorem B67 {d:Int} {t:List Int} {h:A6} (ht:t.length=32):A9e [.a (encI (d::t))] h=some (.t [.a (A5 (bif okX d t then eZ d t else zeros 256)),.c (.i .i64 (bif okX d t then 0 else 1))],h):=by
 have key:∀ N,32<N->∀ g,∃ g',A8q N [.a (encI (d::t))] g=some (.t [.a (A5 (bif okX d t then eZ d t else zeros 256)),.c (.i .i64 (bif okX d t then 0 else 1))],g'):=by
  intro N hN g;have hB:=D6 (d:=d) ht;have hz:(A5 (zeros 256)).length=256:=by rw [A4];exact zeros_length
  have hD:=λh=>bE (d:=d) (t:=t) (h:=h)
  have l0:(encI (d::t))[0]?=some (.i .i64 d):=rfl;have haf:D9 (E41 256 (Cell.i .u8 0)) []=some (E41 256 (Cell.i .u8 0)):=rfl;rw [I5] at haf;rw [C4l,I5];unfold okX;by_cases c:0<=d/\d<=5
  ·rw [decide_eq_true c.1,decide_eq_true c.2,E5d,E5d];have hd:=B1g c.1 c.2;rw [hd] at hD;have ef:D9 [Cell.i .u8 0,.i .u8 0,.i .u8 0,.i .u8 0] [(0,1,.c (.i .u8 105)),(1,1,.c (.i .u8 100)),(2,1,.c (.i .u8 120)),(3,1,.c (.i .u8 33))]=some (A5 magX):=rfl;have hO:=B1s (data:=magX) (v:=sV (g.length+2) 0 4 1) (nv:=4) (h:=g++[rT (encI (d::t)),rT (A5 (zeros 256)),rT (A5 magX),none]) (Has.row (rw:=true) (by simp) rfl (F0 _)) (by decide);rw [C6Z (by decide)] at hO;have hM:xY (g++[rT (encI (d::t)),rT (A5 (zeros 256)),rT (A5 magX),none]) (sV (g.length+2) 0 4 1)=some (sV (g.length+2) 0 4 1):=by simp [xY]
   have hW:=λh=>X7 (h:=h) (l:=N9 256 magX) (F7 (by decide)) (a:=4) (w:=1) (v:=d)
   have ew:=iG (l:=magX) (a:=4) (w:=1) (v:=d) (by decide) (by omega) (by omega) (by omega);have e5:magX++zeros (4-magX.length)++A9 1 d=magX++A9 1 d:=rfl;have e6:N9 256 (magX++A9 1 d)=N9 256 (xS d++rA (t.take 0)):=by
    rw [E5X,show rA []=[] from rfl,E5t];exact (D4S (by simp [magX])).symm
   rw [e5,e6] at ew;rw [show ((4:Nat):Int)=4 from rfl,show ((1:Nat):Int)=1 from rfl] at ew;rw [ew] at hW;have hp2:(A5 (N9 256 (xS d++rA (t.take 0)))).length=256:=by rw [A4,F7 (by rw [E43,oX,oZ,E5q];omega)]
   have e7:C8 (g++[rT (encI (d::t)),rT (A5 (zeros 256)),rT (A5 magX),rT (A5 (N9 256 (xS d++rA (t.take 0))))]) 32 (pV g.length 1)=some (.a (encI t)):=by
    rw [N6];simp only [List.getElem?_cons_zero,Option.join_some,ldN,E49];rw [if_pos ⟨by rw [hB];omega,rfl⟩];have:(encI (d::t)).drop 1=encI t:=rfl;rw [this,E5b (by rw [A8];omega)]
   obtain ⟨h',e⟩:=C96 (d:=d) (t:=t) (g:=g) (q:=N) ht hB 32 0 N (by omega) hN;rw [E5k] at e;generalize N9 256 (xS d++rA (t.take 0))=P1 at *;generalize N9 256 magX=P2 at *;generalize eZ d t=B at *;generalize A5 magX=mg at *;generalize zeros 256=z at *;generalize encI (d::t)=y at *;refine ⟨h',?_⟩;simp only [esc,esh,Nat.reduceAdd,Nat.reduceMul,Nat.reduceLT,hB,hz,l0,hD,ef,hM,hO,hW,hp2,e7,show g.length+2+1=g.length+3 from rfl];exact e
  ·have cd:¬ d=((V1 d:Nat):Int):=by unfold V1;omega
   have ec:(decide (0<=d)&&(decide (d<=5)&&t.all uA))=false:=by
    by_cases c1:0<=d
    ·rw [decide_eq_false (show ¬ d<=5 by omega)];simp
    ·rw [decide_eq_false c1];rfl
   rw [ec,cond_false,cond_false];generalize zeros 256=z at *;generalize encI (d::t)=y at *;exact ⟨_,by simp only [esc,esh,Nat.reduceAdd,Nat.reduceMul,Nat.reduceLT,hB,hz,l0,hD,cd,haf]<;>rfl⟩
 obtain ⟨g',e⟩:=key (h.length+33) (by omega) (ro h);refine B81 e ?_;cases okX d t<;>simp
def getD (b:List UInt8):Int:=fieldN b 4 1
def E2T (b:List UInt8) (i:Nat):Int:=fieldN b (32+2*i) 2
def N0 (b:List UInt8) (n:Nat):List Int:=(E5v n).map (E2T b)++zI (32-n)
theorem kM {b:List UInt8} {n:Nat} (hn:n<=32):(N0 b n).length=32:=by simp [N0,zI];omega
theorem C90 {b:List UInt8} {k:Nat} (hk:k<32):N0 b (k+1)=(N0 b k).set k (E2T b k):=by
 unfold N0;have e:zI (32-k)=0::zI (32-(k+1)):=by
  unfold zI;rw [show 32-k=(32-(k+1))+1 by omega,E5p]
 rw [e,E5A _ _ (by simp),List.range_succ,E5T,E45];simp
theorem D1c {b:List UInt8} {a w:Nat} (h:a+w<=256) (hw:1<=w) (hw4:w<=4):((atN b (a:Int) w:Nat):Int)=fieldN b a w:=by
 unfold atN fieldN;rw [if_pos ⟨by omega,N2.2 (by omega)⟩];simp only [E5j]
def A1d (t:List Int) (n e:Nat):Bool:=(E5D n e).all λi=>decide (toX t i=0)
def T8 (b:List UInt8):Bool:=okX (getD b) (N0 b 32)&&(decide (eZ (getD b) (N0 b 32)=b)&&A1d (N0 b 32) (B9 (getD b)) (32-B9 (getD b)))
theorem D8n {b:List UInt8} {d:Int} {t:List Int} {ix iz q:Nat} {h:A6} (ht:t.length=32) (hx:rd h ix=rT (encI (d::t))) (hz:rd h iz=rT (encI (0::zI 32))):∀ e i m:Nat,i+e=32->e<m ->
  ∃ h',B66 q m (pV iz 0) (pV ix 0) (iV (i:Int)) h=some (.t [.a (encI (bif A1d t i e then d::t else 0::zI 32)),.c (.i .i64 (bif A1d t i e then 0 else 14))],h')
 | e,i,0,_,hm=>by omega
 | 0,i,m+1,hi,hm=>by
  have e0:i=32:=by omega
  subst e0;have c0:¬ ((32:Nat):Int)<32:=by omega
  have hX:=D6 (d:=d) ht;have hZ:(encI (0::zI 32)).length=33:=D6 (d:=0) G9;have s1:=B8 (h:=h) (id:=ix) hx hX;have s2:=storeAll (h:=h) (id:=iz) (xs:=encI (d::t)) hz hZ hX;have s3:=B8 (h:=h.set iz (rT (encI (d::t)))) (id:=iz) (B7 (C5 hz)) hX;have er:A1d t 32 0=true:=rfl;rw [A7x,er,cond_true,cond_true];generalize encI (d::t)=y at *;exact ⟨_,by simp only [esc,c0,s1,s2,s3]<;>rfl⟩
 | e+1,i,m+1,hi,hm=>by
  obtain ⟨h',ih⟩:=D8n (b:=b) (q:=q) ht hx hz e (i+1) m (by omega) (by omega);have c0:(i:Int)<32:=by omega
  have hZ:(encI (0::zI 32)).length=33:=D6 (d:=0) G9;have a1:=adX (id:=ix) (i:=i) (by omega);have l1:=ldX (h:=h) (id:=ix) hx ht (i:=i) (by omega);have haf:D9 (encI (0::zI 32)) []=some (encI (0::zI 32)):=rfl;have s2:=storeAll (h:=h) (id:=iz) (xs:=encI (0::zI 32)) hz hZ hZ;have s3:=B8 (h:=h.set iz (rT (encI (0::zI 32)))) (id:=iz) (B7 (C5 hz)) hZ;have er:A1d t i (e+1)=(decide (toX t i=0)&&A1d t (i+1) e):=by unfold A1d;rw [List.range'_succ,E5J]
  rw [A7x,er,B01];by_cases c:toX t i=0
  ·rw [decide_eq_true c,E5d];rw [c] at l1;generalize encI (0::zI 32)=z at *;exact ⟨h',by simp only [esc,c0,a1,l1,C6 (show i+1<9223372036854775808 by omega)];exact ih⟩
  ·rw [decide_eq_false c,E48,cond_false,cond_false];generalize encI (0::zI 32)=z at *;exact ⟨_,by simp only [esc,c0,a1,l1,c,haf,s2,s3]<;>rfl⟩
theorem D8m {b:List UInt8} {g:A6} {q:Nat} (hb:b.length=256) (hq:32<q):∀ e i m:Nat,i+e=32->e<m ->
  ∃ h',B65 q m (pV g.length 0) (pV (g.length+1) 0) (pV (g.length+2) 0) (iV (i:Int)) (g++[rT (A5 b),rT (encI (0::zI 32)),rT (encI (getD b::N0 b i))]) =
   some (.t [.a (encI (bif T8 b then getD b::N0 b 32 else 0::zI 32)),.c (.i .i64 (bif T8 b then 0 else 14))],h')
 | e,i,0,_,hm=>by omega
 | 0,i,m+1,hi,hm=>by
  have e0:i=32:=by omega
  subst e0;have c0:¬ ((32:Nat):Int)<32:=by omega
  have hB:(A5 b).length=256:=by rw [A4,hb]
  have ht:=kM (b:=b) (n:=32) (E44 _);have hX:=D6 (d:=getD b) ht;have hZ:(encI (0::zI 32)).length=33:=D6 (d:=0) G9;have hz0:(E41 256 (Cell.i .u8 0)).length=256:=E5r;have hP:=λh=>B67 (d:=getD b) (t:=N0 b 32) (h:=h) ht
  have hM:=λh=>dH (d:=getD b) (h:=h) ht
  have C6r:=N8 (getD b);have haf:D9 (encI (0::zI 32)) []=some (encI (0::zI 32)):=rfl;unfold T8;rw [A7w,B01];cases co:okX (getD b) (N0 b 32) with
  | false =>
   rw [co] at hP;simp only [cond_false] at hP;have hzz:(A5 (zeros 256)).length=256:=by rw [A4];exact zeros_length
   rw [E48,cond_false,cond_false];generalize encI (0::zI 32)=z at *;generalize encI (getD b::N0 b 32)=y at *;generalize E41 256 (Cell.i .u8 0)=zz at *;generalize zeros 256=zzz at *;exact ⟨_,by simp only [esc,esh,Nat.reduceAdd,Nat.reduceMul,Nat.reduceLT,c0,hX,hP,hz0,hzz,haf,hZ,show decide ((1:Int)=0)=false from rfl]<;>rfl⟩
  | true =>
   rw [co] at hP;simp only [cond_true] at hP;rw [E5d];have P6:=kP (d:=getD b) ht;have hI:(A5 (eZ (getD b) (N0 b 32))).length=256:=by rw [A4,P6]
   have hE:=D5q (n:=256) P6 hb;by_cases ce:eZ (getD b) (N0 b 32)=b
   ·rw [decide_eq_true ce,E5d];rw [decide_eq_true ce] at hE;obtain ⟨h',e⟩:=D8n (b:=b) (d:=getD b) (t:=N0 b 32) (ix:=g.length+2) (iz:=g.length+1) (q:=q) (h:=g++[rT (A5 b),rT (encI (0::zI 32)),rT (encI (getD b::N0 b 32)),rT (A5 (eZ (getD b) (N0 b 32)))]) ht (by simp) (by simp) (32-B9 (getD b)) (B9 (getD b)) q (by omega) (by omega);refine ⟨h',?_⟩;generalize A1d (N0 b 32) (B9 (getD b)) (32-B9 (getD b))=R at *;generalize eZ (getD b) (N0 b 32)=I at *;generalize getD b::N0 b 32=Y at *;generalize encI (0::zI 32)=z at *;generalize E41 256 (Cell.i .u8 0)=zz at *;simp only [esc,esh,Nat.reduceAdd,Nat.reduceMul,Nat.reduceLT,c0,hX,hP,hz0,hI,hB,hE,hM];exact e
   ·rw [decide_eq_false ce,E48,cond_false,cond_false];rw [decide_eq_false ce] at hE;generalize eZ (getD b) (N0 b 32)=I at *;generalize encI (0::zI 32)=z at *;generalize encI (getD b::N0 b 32)=y at *;generalize E41 256 (Cell.i .u8 0)=zz at *;exact ⟨_,by simp only [esc,esh,Nat.reduceAdd,Nat.reduceMul,Nat.reduceLT,c0,hX,hP,hz0,hI,hB,hE,haf,hZ]<;>rfl⟩
 | e+1,i,m+1,hi,hm=>by
  obtain ⟨h',ih⟩:=D8m (g:=g) (q:=q) hb hq e (i+1) m (by omega) (by omega);have c0:(i:Int)<32:=by omega
  have hB:(A5 b).length=256:=by rw [A4,hb]
  have ht:=kM (b:=b) (n:=i) (by omega);have hX:=D6 (d:=getD b) ht;have hA:=λh=>mK (h:=h) hb (a:=((32+2*i:Nat):Int)) (w:=2)
  have ea:=D1c (b:=b) (a:=32+2*i) (w:=2) (by omega) (by omega) (by omega);rw [show ((2:Nat):Int)=2 from rfl] at ea;rw [ea] at hA;have w1:IntKind.wrap .i64 (2*(i:Int))=((2*i:Nat):Int):=by rw [wrap_i64 (by omega) (by omega)];omega
  have w2:IntKind.wrap .i64 (32+((2*i:Nat):Int))=((32+2*i:Nat):Int):=by rw [wrap_i64 (by omega) (by omega)];omega
  have a1:=adX (id:=g.length+2) (i:=i) (by omega);have hs:(encI (getD b::N0 b i)).set (1+i) (.i .i64 (fieldN b (32+2*i) 2))=encI (getD b::N0 b (i+1)):=by rw [B6M,C90 (by omega)];rfl
  have U8:1+i<(encI (getD b::N0 b i)).length:=by rw [hX];omega
  rw [A7w];generalize T8 b=G at *;generalize getD b::N0 b 32=Y at *;generalize encI (getD b::N0 b (i+1))=y1 at *;generalize encI (getD b::N0 b i)=y at *;generalize encI (0::zI 32)=z at *;refine ⟨h',?_⟩;simp only [esc,esh,Nat.reduceAdd,Nat.reduceMul,Nat.reduceLT,c0,hB,w1,w2,hA,a1,U8,hs,C6 (show i+1<9223372036854775808 by omega)];exact ih
theorem D1v {b:List UInt8} {h:A6} (hb:b.length=256):A9d [.a (A5 b)] h=some (.t [.a (encI (bif T8 b then getD b::N0 b 32 else 0::zI 32)),.c (.i .i64 (bif T8 b then 0 else 14))],h):=by
 have key:∀ N,32<N->∀ g,∃ g',A8p N [.a (A5 b)] g=some (.t [.a (encI (bif T8 b then getD b::N0 b 32 else 0::zI 32)),.c (.i .i64 (bif T8 b then 0 else 14))],g'):=by
  intro N hN g;have hB:(A5 b).length=256:=by rw [A4,hb]
  have hZ:(encI (0::zI 32)).length=33:=D6 (d:=0) G9;have hA:=λh=>mK (h:=h) hb (a:=4) (w:=1)
  have ea:=D1c (b:=b) (a:=4) (w:=1) (by omega) (by omega) (by omega);rw [show ((4:Nat):Int)=4 from rfl,show ((1:Nat):Int)=1 from rfl] at ea;rw [ea] at hA;have ef:D9 (encI (0::zI 32)) [(0,1,iV (fieldN b 4 1))]=some (encI (getD b::N0 b 0)):=by
   have e1:(0+1<=(encI (0::zI 32)).length):=by rw [hZ];omega
   simp only [D9,cells?];rw [if_pos ⟨rfl,e1⟩];rfl
  have hX:=D6 (d:=getD b) (kM (b:=b) (n:=0) (by omega));obtain ⟨h',e⟩:=D8m (g:=g) (q:=N) hb hN 32 0 N (by omega) hN;rw [C4k,B01];generalize T8 b=G at *;generalize getD b::N0 b 32=Y at *;generalize encI (getD b::N0 b 0)=y at *;generalize encI (0::zI 32)=z at *;exact ⟨h',by simp only [esc,esh,Nat.reduceAdd,Nat.reduceMul,Nat.reduceLT,hB,hZ,hA,ef,hX];exact e⟩
 obtain ⟨g',e⟩:=key (h.length+33) (by omega) (ro h);refine B8Z e ?_;cases T8 b<;>simp
def vY (t:List Int) (i:Nat):Bool:=!decide (toX t i=0)&&nA t i
def J6 (t:List Int) (k:Nat):List Int:=((E5v k).filter (vY t)).map (toX t)
theorem A0b {t:List Int} {k:Nat}:J6 t (k+1)=J6 t k++(if vY t k=true then [toX t k] else []):=by
 unfold J6;rw [List.range_succ,List.filter_append,E5T,List.filter_cons];by_cases c:vY t k=true<;>simp [c]
theorem fI (t:List Int) (k:Nat):(J6 t k).length<=k:=by
 unfold J6;rw [List.length_map];exact E5E (List.length_filter_le _ _) (by simp)
theorem A6i {d:Int} {t:List Int} {g:A6} {n q:Nat} (ht:t.length=32) (hn:n<=32):∀ (e i m:Nat) (h:A6) (id:Nat),i+e=n->e<m->Low (g++[rT (encI (d::t))]).length (g++[rT (encI (d::t))]) h->(g++[rT (encI (d::t))]).length<=id->rd h id=rT (encI (J6 t i)) ->
  ∃ v h',uE q m (pV g.length 0) (sV id 0 (J6 t i).length 1) (iV (n:Int)) (iV (i:Int)) h=some (v,h')/\Out g.length h' v 1 (J6 t n).length (encI (J6 t n))
 | e,i,0,h,id,_,hm,_,_,_=>by omega
 | 0,i,m+1,h,id,hi,hm,hlow,hid,hr=>by
  have e0:i=n:=by omega
  subst e0;have c0:¬ (i:Int)<i:=by omega
  rw [E43] at hid;rw [yC];exact ⟨_,_,by simp only [esc,c0]<;>rfl,by rw [A8];omega,_,rfl,by omega,hr⟩
 | e+1,i,m+1,h,id,hi,hm,hlow,hid,hr=>by
  have c0:(i:Int)<n:=by omega
  have hB:=D6 (d:=d) ht;have hrd:rd h g.length=rT (encI (d::t)):=hlow.rd (by simp);have s1:=B8 (h:=h) (id:=g.length) (cs:=encI (d::t)) hrd hB;have a1:=adX (id:=g.length) (i:=i) (by omega);have l1:=ldX (h:=h) (id:=g.length) hrd ht (i:=i) (by omega);have hFs:=λh=>B0r (d:=d) (t:=t) (i:=i) (h:=h) ht (by omega)
  have w1:=C6 (show i+1<9223372036854775808 by omega);have hul:=fI t i;rw [yC];have skip:vY t i=false->∃ v h',uE q m (pV g.length 0) (sV id 0 (J6 t i).length 1) (iV (n:Int)) (iV ((i+1:Nat):Int)) h=some (v,h')/\Out g.length h' v 1 (J6 t n).length (encI (J6 t n)):=by
   intro c;have hu:J6 t (i+1)=J6 t i:=by rw [A0b,c];simp
   have:=A6i (q:=q) ht hn e (i+1) m h id (by omega) (by omega) hlow hid (by rw [hu];exact hr);rw [hu] at this;exact this
  by_cases cz:toX t i=0
  ·obtain ⟨v,h',f1,f2⟩:=skip (by unfold vY;rw [decide_eq_true cz];rfl);rw [cz] at l1;refine ⟨v,h',?_,f2⟩;generalize encI (d::t)=z at *;simp only [esc,c0,a1,l1,nB,w1];exact f1
  ·cases cs:nA t i with
   | false =>
    obtain ⟨v,h',f1,f2⟩:=skip (by unfold vY;rw [cs,E5Y]);rw [cs] at hFs;refine ⟨v,h',?_,f2⟩;generalize encI (d::t)=z at *;simp only [esc,c0,a1,l1,cz,s1,hFs,nB,w1];exact f1
   | true =>
    rw [cs] at hFs;have cb:vY t i=true:=by unfold vY;rw [cs,decide_eq_false cz];rfl
    have hu:J6 t (i+1)=J6 t i++[toX t i]:=by rw [A0b,if_pos cb]
    obtain ⟨h1,b1,b2,b3,b4,b5⟩:=push (ys:=[.i .i64 (toX t i)]) (sz:=1) (n:=(J6 t i).length) hlow hr (by rw [A8];omega) hid rfl (by omega) (by omega);have he:encI (J6 t i)++[.i .i64 (toX t i)]=encI (J6 t (i+1)):=by rw [hu];simp [encI]
    rw [he] at b2;obtain ⟨v,h',f1,f2⟩:=A6i (q:=q) ht hn e (i+1) m h1 (h.length+1) (by omega) (by omega) b3 b4 b2;have hl1:(J6 t (i+1)).length=(J6 t i).length+1:=by rw [hu];simp
    rw [hl1] at f1;have ef:D9 [o0] [(0,1,iV (toX t i))]=some [.i .i64 (toX t i)]:=rfl;refine ⟨v,h',?_,f2⟩;generalize encI (d::t)=z at *;simp only [esc,c0,a1,l1,cz,s1,hFs,ef,b1,nB,w1];exact f1
theorem uD {d:Int} {t:List Int} {h:A6} (ht:t.length=32):xJ [.a (encI (d::t))] h=some (sV h.length 0 (J6 t (B9 d)).length 1,h++[rT (encI (J6 t (B9 d)))]):=by
 have key:∀ N,32<N->∀ g,∃ v g',xD N [.a (encI (d::t))] g=some (v,g')/\Out g.length g' v 1 (J6 t (B9 d)).length (encI (J6 t (B9 d))):=by
  intro N hN g;have hB:=D6 (d:=d) ht;have hM:=λh=>dH (d:=d) (h:=h) ht
  have hm:=N8 d;obtain ⟨v,g',f1,f2⟩:=A6i (g:=g) (d:=d) (q:=N) ht hm (B9 d) 0 N (g++[rT (encI (d::t)),rT [],rT []]) (g.length+2) (by omega) (by omega)
   (by have:=(Low.refl (h:=g++[rT (encI (d::t))]) (E44 _)).new [rT [],rT []];simpa using this) (by simp) (by simp [J6,encI])
  rw [show J6 t 0=[] from rfl] at f1;rw [B3x];refine ⟨v,g',?_,f2⟩;generalize encI (d::t)=z at *;simp only [esc,esh,Nat.reduceAdd,Nat.reduceMul,Nat.reduceLT,hB,hM] at f1 ⊢;exact f1
 obtain ⟨v,g',e,ho⟩:=key (h.length+33) (by omega) (ro h);exact B1L e (by simpa [E7] using ho) (by simp)
def C8M (h:Nat) (b:Int):Nat:=if b<1 then 0 else if 32<=b then h else h%2 ^ b.toNat
theorem D4I {x:Nat} {b:Int} {h:A6} (hx:x<4294967296):B89 [.c (.i .u32 (x:Int)),iV b] h=some (iV (C8M x b:Nat),h):=by
 have key:∀ g,∃ g',B8i 0 [.c (.i .u32 (x:Int)),iV b] g=some (iV (C8M x b:Nat),g'):=by
  intro g;rw [D0P];unfold C8M;by_cases c1:b<1
  ·rw [if_pos c1];exact ⟨_,by simp only [esc,c1]<;>rfl⟩
  ·rw [if_neg c1];have w1:IntKind.wrap .i64 (x:Int)=(x:Int):=wrap_i64 (by omega) (by omega);by_cases c2:32<=b
   ·rw [if_pos c2];exact ⟨_,by simp only [esc,c1,c2,w1]<;>rfl⟩
   ·rw [if_neg c2];obtain ⟨k,rfl⟩:∃ k:Nat,b=k:=⟨b.toNat,by omega⟩;have hk:k<32:=by omega
    rw [E5j];have w2:=B92 (k:=k) (by omega);have hp:2 ^ k<=2 ^ 31:=Nat.pow_le_pow_right (by omega) (by omega);have hp0:0<2 ^ k:=Nat.pow_pos (by omega);have e1:N5 .shl (.c (.i .u32 1)) (.c (.i .u64 (k:Int)))=some (.c (.i .u32 ((2 ^ k:Nat):Int))):=by
     rw [B6A (by omega)];have h1:Nat.min (k:Int).toNat (IntKind.u32).bits=k:=by
      have:(IntKind.u32).bits=32:=rfl;rw [this,E5j];exact E5U (by omega)
     rw [h1,Int.one_mul];have e:(2:Int) ^ k=((2 ^ k:Nat):Int):=by simp
     rw [e];generalize 2 ^ k=y at hp hp0 ⊢;rw [wrap_u32 (by omega) (by omega)]
    have w3:IntKind.wrap .u32 (((2 ^ k:Nat):Int)-1)=((2 ^ k-1:Nat):Int):=by rw [wrap_u32 (by omega) (by omega)];omega
    have e2:=D9O (a:=x) (b:=2 ^ k-1) hx (by omega);rw [Nat.and_two_pow_sub_one_eq_mod] at e2;have hm:x%2 ^ k<2 ^ k:=Nat.mod_lt _ hp0;have w4:IntKind.wrap .i64 ((x%2 ^ k:Nat):Int)=((x%2 ^ k:Nat):Int):=wrap_i64 (by omega) (by omega);generalize 2 ^ k-1=y at *;generalize x%2 ^ k=z at *;exact ⟨_,by simp only [esc,c1,c2,w2,e1,w3,e2,w4]<;>rfl⟩
 obtain ⟨g',e⟩:=key (ro h);exact C46 e rfl
theorem C6w {d:Int} {t:List Int} {x:Nat} {h:A6} (ht:t.length=32) (hx:x<4294967296):A3e [.a (encI (d::t)),.c (.i .u32 (x:Int))] h=some (iV (x%B9 d:Nat),h):=by
 have key:∀ g,∃ g',A2N 0 [.a (encI (d::t)),.c (.i .u32 (x:Int))] g=some (iV (x%B9 d:Nat),g'):=by
  intro g;have hB:=D6 (d:=d) ht;have hD:=λh=>bE (d:=d) (t:=t) (h:=h)
  have hL:=λh=>D4I (x:=x) (b:=(V1 d:Nat)) (h:=h) hx
  have e:C8M x (V1 d:Nat)=x%B9 d:=by
   unfold C8M B9;have:=qS d;rw [E5j];by_cases c:((V1 d:Nat):Int)<1
   ·have:V1 d=0:=by omega
    rw [if_pos c,this];simp [Nat.mod_one]
   ·rw [if_neg c,if_neg (by omega)]
  rw [e] at hL;rw [B8a];generalize encI (d::t)=y at *;exact ⟨_,by simp only [esc,esh,Nat.reduceAdd,Nat.reduceMul,Nat.reduceLT,hB,hD,hL]<;>rfl⟩
 obtain ⟨g',e⟩:=key (ro h);exact B38 e rfl
theorem C8I (b:List UInt8):(N0 b 32).length=32:=by simp [N0,zI]
end Go.Proofs.YtbnkgnfhgbhblaaGreat
namespace Go.Proofs.YtbnkgnfhgbhblaaGreat
open Go Go.Esc
set_option maxRecDepth 100000
noncomputable section
variable (n m m2:Nat) (a0 a1 x0 x1 x2 x3 x4 x6 x7 x8 x9 x10 x18 x19 x21 x22:Val) (h:A6)
def lW:FD Tryz.prog:=⟨px 0X1121121229c2e156e04b7d218011d21121224632e2a82b627a7f17a68b1c7a307a3601f627c06881c003911a4a2e2d0421c8311a022e2d3042152e2d033070242e2d0331a617c12f2e2d0422e2d03060510638802c132e2d03203011d21121224631e2a81b62487f048360631e2a8762387f038360632a2a81c9651e7f61e38b01e3605617c6388041282b0220131211012,[.c (.b true),.c (.s [46]),.c (.s [46,46]),.c (.i .u8 0),.c (.i .u8 47)],[.idxS (.t 25) (.t 26),.idxS (.t 30) (.t 31)],[.tmp 2],[]⟩
def B5P:=lW.R
def B2Z:AtH:=lW.lj 0 n [m] [x0,x21,x22]
def B6x:=tT [⟨2,3,B2Z⟩]
def C2j:=mR B5P lW B6x n [a0] h
def A4S:=mL lW B6x 0 n [m] [x0,x21,x22] h
def B5x:=lW.K Tryz.func243
def A56:=lW.S
theorem A7b:SOk Tryz.prog 243 A56:=B5x.sok
theorem B6h:E5 B5P A56:=B5x.flat
def oL:FD Tryz.prog:=⟨px 0X1131218391de28393d39332221e82b154e07c218621fa2a2813928c0688380006507c382e17181ac611a022b2a642062152b2a42053070242b2a420531a617c12c2b2a420622b2a420506051063880032b2a420524223621fa16a13928c64f8638801d154203201683165a391de3e03e393843222241637c2a19121a54205248516101ac0713542042420331e2d8142032101e22d922022,[],[.idxS (.t 24) (.t 25)],[.cellN 2 25,.tmp 3],[cal A7b]⟩
def A8u:=oL.R
def B7l:AtH:=oL.lj 0 n [m] [x0,x2,x4,x18,x19]
def C0Z:=tT [⟨2,5,B7l⟩]
def C4q:=mR A8u oL C0Z n [a0] h
def A7F:=mL oL C0Z 0 n [m] [x0,x2,x4,x18,x19] h
def C0u:=oL.K Tryz.func244
def A9l:=oL.S
theorem A9m:SOk Tryz.prog 244 A9l:=C0u.sok
theorem B9b:E5 A8u A9l:=C0u.flat
def uV:FD Tryz.prog:=⟨px 0X1101ec212c3d133222011d03212322224672a2a826868b439683b3839683b601637c7e2e173c5221ac01a82391de1e62d912a6801e2c6919c2916101ac6e2a11876514251318851168806886507c4e1d155122011d032123222241c9657c3e1b121c41324123584164dc61c141391828d44122103062ec3112,[.c (.s []),.c (.b true)],[.slA 25 1 (.t 1) (some (.v (.c (.i .i64 1)))) (some (.t 14)),.b2s (.t 15),.eqA true (E41 25 (.i .u8)) (.t 25) (.t 26)],[.tmp 2,.tmp 3],[cal A9m]⟩
def A2U:=uV.R
def B8j:=mR A2U uV (tT []) n [a0] h
def B18:=uV.K Tryz.func237
def A3m:=uV.S
theorem B9c:SOk Tryz.prog 237 A3m:=B18.sok
theorem B4i:E5 A2U A3m:=B18.flat
def A1A:FD Tryz.prog:=⟨px 0X13c4161a17c4000441234111022,[.c (.b false)],[],[.tmp 4],[]⟩
def C0O:=A1A.R
def C4p:=mR C0O A1A (tT []) n [a0,a1] h
def C0t:=A1A.K Tryz.func242
def A9k:=A1A.S
theorem C48:SOk Tryz.prog 242 A9k:=C0t.sok
theorem B9a:E5 C0O A9k:=C0t.flat
def lZ:FD Tryz.prog:=⟨px 0X12cc011ec41363e2a861a218d7f418d3618d1f61a118d19b3818d3018d36061e17c61c800380383d11e01954231e871483c12181dc615607c4803182461a201ac4061c61a11986e002c16391876106219c18162e07c1961a7c61a77c5a04a04a0718761052150702461a17c2e02e1b131d7610527610437610406056103358016161c8019147610423014121022,[.c (.b false)],[],[.tmp 4,.tmp 5],[cal C48]⟩
def A5x:=lZ.R
def A3Q:AtH:=lZ.lj 0 n [m] [x0,x1,x6,x7]
def B6y:=tT [⟨2,4,A3Q⟩]
def C2k:=mR A5x lZ B6y n [a0,a1] h
def A4T:=mL lZ B6y 0 n [m] [x0,x1,x6,x7] h
def B5y:=lZ.K Tryz.func213
def yW:=lZ.S
theorem C2Y:SOk Tryz.prog 213 yW:=B5y.sok
theorem B6i:E5 A5x yW:=B5y.flat
def fG:FD Tryz.prog:=⟨px 0X12ac211c4d122122a81a155807c218621fa1a1e11982c03801c05182688116883801c006885607c3801c38170191a1918653631bc3161a13cc31013113fc1c041a191865362017246e2c112c1a1918653721a19186536319c01986112e6802a2a6918c1e161a201ac5e06a1f1181a19187653726c5161c1a2a119831a19185352151a19183411a070241a19183431a617c11b1a19183521a19183406051061c8018131a191834231313b813022123b91012,[.c (.s [])],[.slL 1 (.t 24) (some (.t 26)) none,.slL 1 (.t 28) (some (.t 29)) none,.copy 1 (.t 27) (.t 30)],[.tmp 2],[cal C2Y]⟩
def A8v:=fG.R
def B7m:AtH:=fG.lj 0 n [m] [x3,x8,x9,x10]
def D1J:AtH:=fG.lj 1 n [m] [x3,x8,x9,x10]
def A9G:=tT [⟨2,4,B7m⟩,⟨2,4,D1J⟩]
def C4r:=mR A8v fG A9G n [a0] h
def A7H:=mL fG A9G 0 n [m] [x3,x8,x9,x10] h
def A7G:=mJ fG A9G 1 n [m] [x3,x8,x9,x10] h
def C0v:=fG.K Tryz.func167
def A9n:=fG.S
theorem C49:SOk Tryz.prog 167 A9n:=C0v.sok
theorem C2Z:pE A8v A9n:=C0v.out
end
end Go.Proofs.YtbnkgnfhgbhblaaGreat
namespace Go.Proofs.YtbnkgnfhgbhblaaGreat
open Go Go.Esc
def bD (c:UInt8):Bool:=!(decide ((c.toNat:Int)=0)||decide ((c.toNat:Int)=47))
def U3 (s:List UInt8):Bool:=!(decide ((s.length:Int)<1)||decide (24<(s.length:Int))||decide (s=[46])||decide (s=[46,46]))&&s.all bD
theorem bY {s:List UInt8} (h:U3 s=true):1<=s.length/\s.length<=24:=by
 unfold U3 at h;simp at h;omega
theorem C5P (s:List UInt8) (hs:s.length<9223372036854775807) (n:Nat) (h:A6):∀ d i m:Nat,i+d=s.length->d<m ->
  B2Z n m (.c (.s s)) (iV s.length) (iV i) h=some (iV (bif (s.drop i).all bD then 0 else 3),h)
 | d,i,0,_,hm=>by omega
 | 0,i,m+1,hi,hm=>by
  have c0:¬ ((i:Int)<s.length):=by omega
  rw [A4S,show s.drop i=[] from E5c (by omega)];simp only [esc,c0,List.all_nil]
 | d+1,i,m+1,hi,hm=>by
  have h1:(i:Int)<s.length:=by omega
  have h2:i<s.length:=by omega
  have ih:=C5P s hs n h d (i+1) m (by omega) (by omega);rw [A4S,E46 h2,E5J];by_cases c1:(s[i].toNat:Int)=0
  ·have f:bD s[i]=false:=by unfold bD;rw [decide_eq_true c1];rfl
   simp only [esc,h1,jI h2,c1,f,E48]
  ·by_cases c2:(s[i].toNat:Int)=47
   ·have f:bD s[i]=false:=by unfold bD;rw [decide_eq_true c2];simp
    simp only [esc,h1,jI h2,c1,c2,f,E48,Int.reduceEq]
   ·have f:bD s[i]=true:=by unfold bD;rw [decide_eq_false c1,decide_eq_false c2];rfl
    simp only [esc,h1,jI h2,c1,c2,f,E5d,C6 (show i+1<9223372036854775808 by omega)];exact ih
theorem C5O {s:List UInt8} (hs:s.length<9223372036854775807) (h:A6):A56 [.c (.s s)] h=some (iV (bif U3 s then 0 else 3),h):=by
 refine B6h (n:=s.length+1) (h2:=ro h) ?_ rfl;rw [C2j];have hl:=C5P s hs (s.length+1) (ro h) s.length 0 (s.length+1) (by omega) (by omega);rw [E5k] at hl;unfold U3;by_cases c1:(s.length:Int)<1
 ·simp only [esc,c1,Bool.true_or,E48]
 ·by_cases c2:(24:Int)<s.length
  ·simp only [esc,c1,c2,Bool.true_or,E48,Bool.or_true]
  ·by_cases c3:s=[46]
   ·subst c3;simp only [esc];rfl
   ·by_cases c4:s=[46,46]
    ·subst c4;simp only [esc];rfl
    ·simp only [esc,c1,c2,c3,c4,Bool.or_self,E5d];exact hl
def gQ (s:List UInt8) (i:Nat):List UInt8:=UInt8.ofNat s.length::(s.take i++zeros (24-i))
def V9 (s:List UInt8):List UInt8:=bif U3 s then gQ s s.length else zeros 25
theorem mM {s:List UInt8} {i:Nat} (hi:i<=s.length) (hs:s.length<=24):(gQ s i).length=25:=by
 unfold gQ;rw [E5a,E43,zeros_length,E5q];omega
theorem gD {s:List UInt8}:(V9 s).length=25:=by
 unfold V9;cases hf:U3 s with
 | false=>exact zeros_length
 | true=>exact mM (E44 _) (bY hf).2
theorem D63 {s:List UInt8} {i:Nat} (hi:i<s.length) (hs:s.length<=24):(gQ s i).set (1+i) s[i]=gQ s (i+1):=by
 unfold gQ;rw [Nat.add_comm 1 i,E5M];refine congrArg (UInt8.ofNat s.length :: ·) ?_;have hlen:(List.take i s).length=i:=by simp;omega
 rw [E5A _ _ (by omega),hlen,E5K,E5f hi,E45];refine congrArg (List.take i s ++ ·) ?_;have e:24-i=(24-(i+1))+1:=by omega
 rw [e];unfold zeros;rw [E5p,E5L];rfl
theorem D0i (s:List UInt8) (hs:s.length<=24) (h:A6) (c2:List Cell) (l2:c2.length=25) (n:Nat):∀ d i m:Nat,i+d=s.length->d<m ->
  B7l n m (.c (.s s)) (pV h.length 0) (pV (h.length+1) 0) (iV s.length) (iV i) (h++[rT c2,rT (A5 (gQ s i))]) =
   some (.t [.a (A5 (gQ s s.length)),.c o0],h++[rT (A5 (gQ s s.length)),rT (A5 (gQ s s.length))])
 | d,i,0,_,hm=>by omega
 | 0,i,m+1,hi,hm=>by
  have h1:¬ ((i:Int)<s.length):=by omega
  have e:i=s.length:=by omega
  subst e;have hl:(A5 (gQ s s.length)).length=25:=by rw [A4];exact mM (E44 _) hs
  rw [A7F];simp only [esc,esh,Nat.reduceAdd,Nat.reduceMul,Nat.reduceLT,h1,hl,l2]
 | d+1,i,m+1,hi,hm=>by
  have h1:(i:Int)<s.length:=by omega
  have h3:i<s.length:=by omega
  have hl:(A5 (gQ s i)).length=25:=by rw [A4];exact mM (by omega) hs
  have ih:=D0i s hs h c2 l2 n d (i+1) m (by omega) (by omega);have e1:IntKind.wrap .i64 (1+(i:Int))=((1+i:Nat):Int):=by rw [wrap_i64 (by omega) (by omega)];omega
  have ea:J3 25 1 (pV (h.length+1) 0) (iV ((1+i:Nat):Int))=some (pV (h.length+1) (1+i)):=by rw [J4 (by omega)];simp
  have ho:1+i<(A5 (gQ s i)).length:=by omega
  rw [A7F];simp only [esc,esh,Nat.reduceAdd,Nat.reduceMul,Nat.reduceLT,h1,e1,jI h3,ea,ho,gJ,D63 h3 hs,C6 (show i+1<9223372036854775808 by omega)];exact ih
theorem D5W {s:List UInt8} (hs:s.length<9223372036854775807) (h:A6) :
  A9l [.c (.s s)] h=some (.t [.a (A5 (V9 s)),.c (.i .i64 (bif U3 s then 0 else 3))],h):=by
 have key:∀ g,∃ g',A8u (s.length+1) [.c (.s s)] g=some (.t [.a (A5 (V9 s)),.c (.i .i64 (bif U3 s then 0 else 3))],g'):=by
  intro g;have hz:=I5 25;have hl:(A5 (zeros 25)).length=25:=by rw [A4];exact zeros_length
  rw [C4q,hz];unfold V9;cases hf:U3 s with
  | false =>
   generalize zeros 25=Z at *;exact ⟨_,by simp only [esc,esh,Nat.reduceAdd,Nat.reduceMul,Nat.reduceLT,C5O hs,hf,hl,Int.reduceEq]<;>rfl⟩
  | true =>
   have E4n:=(bY hf).2;have e0:(A5 (zeros 25)).set 0 (.i .u8 (IntKind.wrap .u8 s.length))=A5 (gQ s 0):=by
    rw [wrap_u8 (by omega) (by omega)];have:((s.length:Nat):Int)=((UInt8.ofNat s.length).toNat:Int):=by rw [UInt8.toNat_ofNat'];omega
    rw [this,gJ];rfl
   have:=D0i s E4n g (A5 (zeros 25)) hl (s.length+1) s.length 0 (s.length+1) (by omega) (by omega);rw [<-e0] at this;generalize zeros 25=Z at *;have a0:J3 25 1 (pV (g.length+1) 0) (iV 0)=some (pV (g.length+1) 0):=rfl;have ho:0<(A5 Z).length:=by omega
   exact ⟨_,by simp only [esc,esh,Nat.reduceAdd,Nat.reduceMul,Nat.reduceLT,C5O hs,hf,a0,ho];exact this⟩
 obtain ⟨g',e⟩:=key (ro h);exact B9b e (by simp)
def cY (l:List UInt8):Option (List UInt8) :=
 if (l.headD 0).toNat<=24 then
  if U3 ((l.drop 1).take (l.headD 0).toNat)=true/\V9 ((l.drop 1).take (l.headD 0).toNat)=l then some ((l.drop 1).take (l.headD 0).toNat) else none
 else none
theorem D7v {l:List UInt8} (hl:l.length=25) (h:A6) :
  A3m [.a (A5 l)] h=some (.t [.c (.s ((cY l).getD [])),.c (.i .i64 (if (cY l).isSome then 0 else 3))],h):=by
 have key:∀ g,∃ g',A2U 0 [.a (A5 l)] g=some (.t [.c (.s ((cY l).getD [])),.c (.i .i64 (if (cY l).isSome then 0 else 3))],g'):=by
  intro g;obtain ⟨x,r,rfl⟩:∃ x r,l=x::r:=by
   cases l with
   | nil=>simp at hl
   | cons x r=>exact ⟨x,r,rfl⟩
  have hx:=x.toNat_lt;rw [B8j];have a0:J3 25 1 (pV g.length 0) (iV 0)=some (pV g.length 0):=rfl;have l0:(A5 (x::r))[0]?=some (.i .u8 x.toNat):=rfl;have e1:IntKind.wrap .i64 (x.toNat:Int)=x.toNat:=wrap_i64 (by omega) (by omega);have bO:(A5 (x::r)).length=25:=by rw [A4,hl]
  unfold cY;simp only [List.headD_cons,List.drop_succ_cons,E5k];by_cases c1:x.toNat<=24
  ·rw [if_pos c1];have c1':¬ (24:Int)<x.toNat:=by omega
   have e2:IntKind.wrap .i64 (1+(x.toNat:Int))=((1+x.toNat:Nat):Int):=by rw [wrap_i64 (by omega) (by omega)];omega
   have e3:=E2D (h:=g) (l:=[rT (A5 (x::r))]) (k:=0) (n:=25) (a:=1) (b:=1+x.toNat) (cs:=A5 (x::r)) rfl bO (by omega) (by omega);rw [Nat.add_zero,show 1+x.toNat-1=x.toNat by omega,show ((1:Nat):Int)=1 from rfl] at e3;have hh:Has (g++[rT (A5 (x::r))]) (sV g.length 1 x.toNat 1) 1 x.toNat (A5 (r.take x.toNat)):=Has.part S8 (by omega) (by
    rw [C9Q,C9R];simp) (F0 _)
   have hs:(r.take x.toNat).length<9223372036854775807:=by simp;omega
   have hp:=D5W hs (g++[rT (A5 (x::r))]);have hpl:(A5 (V9 (r.take x.toNat))).length=25:=by rw [A4,gD]
   have hz:(E41 25 (Cell.i .u8 0)).length=25:=E5r;have hq:=D5q (l:=V9 (r.take x.toNat)) (m:=x::r) gD hl;generalize E41 25 (Cell.i .u8 0)=z at *;cases hf:U3 (r.take x.toNat) with
   | false =>
    rw [hf] at hp;rw [if_neg (by simp)];exact ⟨_,by simp only [esc,esh,Nat.reduceAdd,Nat.reduceMul,Nat.reduceLT,a0,l0,e1,c1',e2,e3,hh.str,hp,hpl,hz,Int.reduceEq,E5Q,E5o,Bool.false_eq_true]<;>rfl⟩
   | true =>
    rw [hf] at hp;by_cases c2:V9 (r.take x.toNat)=x::r
    ·rw [if_pos ⟨rfl,c2⟩];exact ⟨_,by simp only [esc,esh,Nat.reduceAdd,Nat.reduceMul,Nat.reduceLT,a0,l0,e1,c1',e2,e3,hh.str,hp,hpl,hz,bO,hq,decide_eq_true c2,Int.reduceEq,E5G,E5h,Bool.false_eq_true]<;>rfl⟩
    ·rw [if_neg (λh=>c2 h.2)];exact ⟨_,by simp only [esc,esh,Nat.reduceAdd,Nat.reduceMul,Nat.reduceLT,a0,l0,e1,c1',e2,e3,hh.str,hp,hpl,hz,bO,hq,decide_eq_false c2,Int.reduceEq,E5Q,E5o,Bool.false_eq_true]<;>rfl⟩
  ·rw [if_neg c1];have c1':(24:Int)<x.toNat:=by omega
   exact ⟨_,by simp only [esc,esh,Nat.reduceAdd,Nat.reduceMul,Nat.reduceLT,a0,l0,e1,c1',E5Q,E5o,Bool.false_eq_true]<;>rfl⟩
 obtain ⟨g',e⟩:=key (ro h);exact B4i e (by simp)
end Go.Proofs.YtbnkgnfhgbhblaaGreat
namespace Go.Proofs.YtbnkgnfhgbhblaaGreat
open Go Go.Esc
set_option maxRecDepth 100000
noncomputable section
variable (n m m2:Nat) (a0 a1 a2 a3 x0 x1 x2 x3 x4 x6 x7 x11 x16 x17 x18 x34 x35 x36:Val) (h:A6)
def pK:FD Tryz.prog:=⟨px 0X12c21628967c5607c0042121211012,[],[],[.tmp 2],[]⟩
def A0o:=pK.R
def B5B:=mR A0o pK (tT []) n [a0] h
def A73:=pK.K Tryz.func216
def A0A:=pK.S
theorem pW:SOk Tryz.prog 216 A0A:=A73.sok
theorem B1E:E5 A0o A0A:=A73.flat
def yG:FD Tryz.prog:=⟨px 0X118821362a2a81889619397f6391f14394f60362a2a85641f7f61f1f141f4f601627c6101ac61c044c1f2123062ec2112,[.c (.b false)],[],[.tmp 2],[cal A7b]⟩
def A5i:=yG.R
def C1W:=mR A5i yG (tT []) n [a0] h
def B5b:=yG.K Tryz.func215
def A5C:=yG.S
theorem xH:SOk Tryz.prog 215 A5C:=B5b.sok
theorem B5X:E5 A5i A5C:=B5b.flat
def kZ:FD Tryz.prog:=⟨px 0X11cc2161a13cc71471371271171051a513fc1c2f142121b83161a13cc06881c2c1431219c01982391de1e42d912e6802a2a6918c1e16101ac61c041f4d1943226c316112e10218213fc64f8361c7c61c144c64f861c1464d19312213b862ec2112,[.c (.i .u64 8),.c (.i .u8 0)],[.slA 25 1 (.t 4) none none],[.tmp 2],[cal A9m]⟩
def tB:=kZ.R
def B1A:=mR tB kZ (tT []) n [a0] h
def A3Y:=kZ.K Tryz.func217
def tE:=kZ.S
theorem mZ:SOk Tryz.prog 217 tE:=A3Y.sok
theorem A8F:pE tB tE:=A3Y.out
def gU:FD Tryz.prog:=⟨px 0X175122821de5826e39354220135122821de0293e83542224675a2a863a31ac7f211ac68b28961e351ac1af6101ac1af41ac3184881ac3b01ac68b6141ac1af5821ac3b60672a2a8619a2bf61319a1af58219a3b601637c4c4b1280196c1a4331a423298221de12901a2df6112e102293e81961e321ac6101ac401848838483d171191a19421531e801dc18112a6801e3b691d83816111ac3839393971918421521bc1b156a07c218621fa4a3813928c61c618148828c61a07c5e019607c6101ac403e1e11a186c711a021b7642162151b642153070241b6421531cd617c11c1b6421621b64215060511b111b6421526421431e2d81642142302942d9022ed342132,[.c (.b false),.c (.b true)],[.b2sN none (.t 44),.b2sN none (.t 49)],[.cellN 4 2,.tmp 5],[cal pW,cal B9c,cal vU,cal xH,cal mZ,cal A57]⟩
def A2H:=gU.R
def A9N:AtH:=gU.lj 0 n [m] [x1,x2,x4,x6,x11]
def B2o:=tT [⟨2,5,A9N⟩]
def B7Y:=mR A2H gU B2o n [a0,a1] h
def A18:=mL gU B2o 0 n [m] [x1,x2,x4,x6,x11] h
def B1U:=gU.K Tryz.func203
def A26:=gU.S
theorem A37:SOk Tryz.prog 203 A26:=B1U.sok
theorem B3E:E5 A2H A26:=B1U.flat
def nK:FD Tryz.prog:=⟨px 0X17311312241fa61e33cc63012c133fc1e33841c50230022ed22122,[.c (.b false),.c (.b true)],[],[.tmp 3],[]⟩
def A62:=nK.R
def A0n:=mR A62 nK (tT []) n [a0,a1] h
def A6W:=nK.K Tryz.func212
def nN:=nK.Q
theorem B3C:SOk Tryz.prog 212 nN:=A6W.ok
theorem A0z:OfT A62 nN:=A6W.of
def P5:FD Tryz.prog:=⟨px 0X1cc7153c07c2180124363e2a864b2bf612a4b5ef6211a1022c4b3eb7e24b3b7e4b344b3605a2811938721427c078221de2952d912e6802a1e696c1a161a201ac4a04e4881b3919765421624c411a02742142157213307024721333d617c1187214272130605171172132022ed12122,[.c (.b false)],[],[],[cal A37,cal B3C]⟩
def rZ:=P5.R
def rS:N4:=P5.E
def qN:AtH:=P5.lj 0 n [m] [x1,x2,x7]
def sD:TT:=⟨rS,[⟨2,3,qN⟩]⟩
def A2E:=mR rZ P5 sD n [a0,a1] h
def mV:=mL P5 sD 0 n [m] [x1,x2,x7] h
def rW:=P5.K Tryz.func150
def iI:=P5.Q
theorem A23:SOk Tryz.prog 150 iI:=rW.ok
theorem A22:OfT rZ iI:=rW.of
def uK:FD Tryz.prog:=⟨px 0X13c212a1c221261a201ac1a13ac5d8448838331222d81312233b862ec2112,[],[],[.tmp 2],[cal A23]⟩
def uZ:=uK.R
def B7V:=mR uZ uK (tT []) n [a0] h
def A2B:=uK.K Tryz.func165
def vA:=uK.S
theorem A36:SOk Tryz.prog 165 vA:=A2B.sok
theorem B5S:E1u uZ vA:=A2B.low
theorem B5T:pE uZ vA:=A2B.out
def bS:FD Tryz.prog:=⟨px 0X16c5162bc4e1c3512074a1fa24e31de3e3383182461a27c41c61c064c11a4c51a432423101a30042ed2432142,[.c (.b false),.c (.b true)],[],[.tmp 5],[]⟩
def A61:=bS.R
def B9B:AtH:=bS.lj 0 n [] [x3]
def A7d:=tT [⟨1,1,B9B⟩]
def A0m:=mR A61 bS A7d n [a0,a1,a2,a3] h
def xZ:=mJ bS A7d 0 n [] [x3] h
def A6V:=bS.K Tryz.func151
def gH:=bS.Q
theorem B3A:SOk Tryz.prog 151 gH:=A6V.ok
theorem A0y:OfT A61 gH:=A6V.of
def O9:FD Tryz.prog:=⟨px 0X1cc7153c07c2180124363e2a864b2bf612a4b5ef6211a1022c4b3eb7e24b3b7e4b344b3605a2811938721427c078221de2952d912e6802a1e696c1a161a201ac4a04e4881b3919765421624c411a02742142157213307024721333d617c1187214272130605171172132022ed12122,[.c (.b false)],[],[],[cal A37,cal B3A]⟩
def rY:=O9.R
def rR:N4:=O9.E
def qM:AtH:=O9.lj 0 n [m] [x1,x2,x7]
def sC:TT:=⟨rR,[⟨2,3,qM⟩]⟩
def A2D:=mR rY O9 sC n [a0,a1] h
def mU:=mL O9 sC 0 n [m] [x1,x2,x7] h
def rV:=O9.K Tryz.func150
def iH:=O9.Q
theorem A21:SOk Tryz.prog 150 iH:=rV.ok
theorem A20:OfT rY iH:=rV.of
def uJ:FD Tryz.prog:=⟨px 0X1685112e11c164a31de2e1c2e338201b542361a201ac1a1e3a32af5d83a48838376432321fa42d8276432522c2d81643242302c2d842ec022ed443232,[.c (.b false)],[],[.cellN 4 3,.tmp 5],[cal A21]⟩
def A2C:=uJ.R
def B7U:=mR A2C uJ (tT []) n [a0,a1] h
def B1R:=uJ.K Tryz.func81
def A2Z:=uJ.S
theorem A35:SOk Tryz.prog 81 A2Z:=B1R.sok
theorem B3B:E5 A2C A2Z:=B1R.flat
def uL:FD Tryz.prog:=⟨px 0X1204881de6101ac64ac1f131b12711310419413fc40121c02d91012,[.c (.i .u8 98),.c (.i .u8 107),.c (.i .u8 116),.c (.i .u8 33)],[],[.cellN 0 256],[cal A11]⟩
def A2F:=uL.R
def B7W:=mR A2F uL (tT []) n [] h
def B1S:=uL.K Tryz.func214
def A24:=uL.S
theorem B8r:SOk Tryz.prog 214 A24:=B1S.sok
theorem B3D:E5 A2F A24:=B1S.flat
def bZ:FD Tryz.prog:=⟨px 0X11312184881de284886e39332223ac4c1518e06d7d218012d312184881de01c3e8332222461a37c3c061c04c684d46b4c4b4a42622fc02f8231de2c192d913a6802e5e692ec59161e251ac61c0484c284885a391a4c4b4a19742722c84821de2b87129182d962381e2e21981a064c4b4a1874272354c4b4a4253270244c4b4a42531a617c14d4c4b4a42624c4b4a42516251061c804a134c4b4a4252422328c2a157e07c2182284881de61e2e341ac26131ac382386121ac2c0284883b395019015312184881de01c3e8332222462bc6111ac3822f393392a2928654201922a2928654201831b83821de1a8512962d962381e2e21981a062a292865420182152a292842063070242a2928420631a617c12b2a2928420722a2928420606051061c8028132a292842062420337c24881de1c42d9001f1ad342032015d3126a4881de01c3e833222243d657c61c801b131d20322023101c22d922022,[],[],[.cellN 2 256,.tmp 3],[cal B8r,cal xH,cal pW,cal mZ,cal A58,cal A35]⟩
def A5g:=bZ.R
def B2u:AtH:=bZ.lj 0 n [m] [x0,x2,x4,x16,x17,x18]
def B2v:AtH:=bZ.lj 1 n [m] [x2,x4,x34,x35,x36]
def A6c:=tT [⟨2,6,B2u⟩,⟨2,5,B2v⟩]
def C1U:=mR A5g bZ A6c n [a0] h
def A4k:=mL bZ A6c 0 n [m] [x0,x2,x4,x16,x17,x18] h
def A4l:=mL bZ A6c 1 n [m] [x2,x4,x34,x35,x36] h
def B49:=bZ.K Tryz.func171
def A5A:=bZ.S
theorem C2n:SOk Tryz.prog 171 A5A:=B49.sok
theorem B5U:E5 A5g A5A:=B49.flat
def uM:FD Tryz.prog:=⟨px 0X117127a21de6111a1022d3e818061a07c406101ac01f118762201197124a21de02d3e83762224631e2a83d642c7f02c3601617c0061d621052621043102d62d92621042,[.c (.b true)],[],[.cellN 6 2,.tmp 7],[cal pW]⟩
def A2G:=uM.R
def B7X:=mR A2G uM (tT []) n [a0,a1,a2] h
def B1T:=uM.K Tryz.func218
def A25:=uM.S
theorem B8s:SOk Tryz.prog 218 A25:=B1T.sok
theorem B5W:E1u A2G A25:=B1T.low
def yF:FD Tryz.prog:=⟨px 0X11bc5162821de11a680668611e321ac6111ac1c23802a11854220155126e21de02d3e83542224362a2a86392bf610391af5a2393b60361e2a83d61297f0293601647c001b284304243033102d2d8432ed343032,[.c (.b false)],[],[.cellN 4 2,.tmp 5],[cal xH,cal mZ,cal B8s]⟩
def A5h:=yF.R
def C1V:=mR A5h yF (tT []) n [a0,a1] h
def B5a:=yF.K Tryz.func172
def A5B:=yF.S
theorem C2o:SOk Tryz.prog 172 A5B:=B5a.sok
theorem B5V:D5o A5h A5B:=B5a.tidy
end
end Go.Proofs.YtbnkgnfhgbhblaaGreat
namespace Go.Proofs.YtbnkgnfhgbhblaaGreat
open Go Go.Esc
theorem D1Q {g:A6} {l l':List (Option Row)} {v:Val} {cs:List Cell} (hl:l'=l++[rT cs]):quiet (g++l) (some (v,g++l'))=some (v,g++l'):=by
 subst hl;have:=U9 ((Grows.rfl' (h:=g++l)).new cs) (v:=v);rw [E45] at this;exact this
theorem E2v {g:A6} {a:Option Row} {v:Val} {cs:List Cell}:quiet (g++[a]) (some (v,g++[a,rT cs]))=some (v,g++[a,rT cs]):=D1Q rfl
theorem E2w {g:A6} {a b:Option Row} {v:Val} {cs:List Cell}:quiet (g++[a,b]) (some (v,g++[a,b,rT cs]))=some (v,g++[a,b,rT cs]):=D1Q rfl
theorem D87 {g:A6} {a b c d:Option Row} {v:Val} {cs:List Cell}:quiet (g++[a,b,c,d]) (some (v,g++[a,b,c,d,rT cs]))=some (v,g++[a,b,c,d,rT cs]):=D1Q rfl
theorem D88 {g:A6} {a b c d e:Option Row} {v:Val} {cs:List Cell}:quiet (g++[a,b,c,d,e]) (some (v,g++[a,b,c,d,e,rT cs]))=some (v,g++[a,b,c,d,e,rT cs]):=D1Q rfl
def J2 (k:Nat):Nat:=32+32*k
theorem nS {k:Nat} {h:A6} (hk:k<7):A0A [iV (k:Int)] h=some (iV (J2 k:Nat),h):=by
 have key:∀ g,∃ g',A0o 0 [iV (k:Int)] g=some (iV (J2 k:Nat),g'):=by
  intro g;have w1:=C6 (show k+1<9223372036854775808 by omega);have w2:IntKind.wrap .i64 (32*((k+1:Nat):Int))=((J2 k:Nat):Int):=by unfold J2;rw [wrap_i64 (by omega) (by omega)];omega
  rw [B5B];exact ⟨_,by simp only [esc,w1,w2]<;>rfl⟩
 obtain ⟨g',e⟩:=key (ro h);exact B1E e rfl
def B1P:List UInt8:=[98,107,116,33]
def hdB:List UInt8:=N9 256 B1P
theorem A6y:hdB.length=256:=F7 (by decide)
theorem C5I {h:A6}:A24 [] h=some (.a (A5 hdB),h):=by
 have key:∀ g,∃ g',A2F 0 [] g=some (.a (A5 hdB),g'):=by
  intro g;have hz:(A5 (zeros 256)).length=256:=by rw [A4];exact zeros_length
  have hd:(A5 hdB).length=256:=by rw [A4];exact A6y
  have ef:D9 [Cell.i .u8 0,.i .u8 0,.i .u8 0,.i .u8 0] [(0,1,.c (.i .u8 98)),(1,1,.c (.i .u8 107)),(2,1,.c (.i .u8 116)),(3,1,.c (.i .u8 33))]=some (A5 B1P):=rfl;have hO:=B1s (data:=B1P) (v:=sV (g.length+1) 0 4 1) (nv:=4) (h:=g++[rT (A5 (zeros 256)),rT (A5 B1P)]) (Has.row (rw:=true) (by simp) rfl (F0 _)) (by decide);rw [C6Z (by decide),show N9 256 B1P=hdB from rfl] at hO;have hM:xY (g++[rT (A5 (zeros 256)),rT (A5 B1P)]) (sV (g.length+1) 0 4 1)=some (sV (g.length+1) 0 4 1):=by simp [xY]
  rw [B7W,I5];generalize hdB=B at *;generalize A5 B1P=mg at *;generalize zeros 256=z at *;exact ⟨_,by simp only [esc,esh,Nat.reduceAdd,Nat.reduceMul,Nat.reduceLT,ef,hM,hO,hz,hd]<;>rfl⟩
 obtain ⟨g',e⟩:=key (ro h);exact B3D e (by simp)
def A1o (s:List UInt8) (n:Int):Bool:=U3 s&&(decide (1<=n)&&decide (n<=128))
theorem A3x {s:List UInt8} {n:Int} {h:A6} (hs:s.length<9223372036854775807):A5C [.a [.s s,.i .i64 n]] h=some (bV (A1o s n),h):=by
 have key:∀ g,∃ g',A5i 0 [.a [.s s,.i .i64 n]] g=some (bV (A1o s n),g'):=by
  intro g;have hC:=λh=>C5O hs h
  rw [C1W];unfold A1o;cases hf:U3 s with
  | false =>
   rw [hf] at hC;exact ⟨_,by simp only [esc,esh,Nat.reduceAdd,Nat.reduceMul,Nat.reduceLT,hC,Int.reduceEq]<;>rfl⟩
  | true =>
   rw [hf] at hC;by_cases c1:1<=n
   ·by_cases c2:n<=128
    ·rw [decide_eq_true c1,decide_eq_true c2];exact ⟨_,by simp only [esc,esh,Nat.reduceAdd,Nat.reduceMul,Nat.reduceLT,hC,c1,c2]<;>rfl⟩
    ·rw [decide_eq_true c1,decide_eq_false c2];exact ⟨_,by simp only [esc,esh,Nat.reduceAdd,Nat.reduceMul,Nat.reduceLT,hC,c1,c2]<;>rfl⟩
   ·rw [decide_eq_false c1];exact ⟨_,by simp only [esc,esh,Nat.reduceAdd,Nat.reduceMul,Nat.reduceLT,hC,c1]<;>rfl⟩
 obtain ⟨g',e⟩:=key (ro h);exact B5X e rfl
def X3 (s:List UInt8) (n:Int):List UInt8:=A9 2 n++V9 s++[0,0,0,0,0]
theorem X4 {s:List UInt8} {n:Int}:(X3 s n).length=32:=by simp [X3,gD]
theorem qO {s:List UInt8} {n:Int} {h:A6} (hs:s.length<9223372036854775807):tE [.a [.s s,.i .i64 n]] h=some (sV h.length 0 32 1,h++[rT (A5 (X3 s n))]):=by
 have key:∀ g,∃ v g',tB 0 [.a [.s s,.i .i64 n]] g=some (v,g')/\Out g.length g' v 1 32 (A5 (X3 s n)):=by
  intro g;have e4:N5 .shr (iV n) (.c (.i .u64 8))=some (iV (n/256)):=C5t (by omega);have wm:∀ a:Int,IntKind.wrap .u8 a=a%256:=λa=>by
   simp only [IntKind.wrap,IntKind.bits,IntKind.signed,E48];rfl
  have b0:IntKind.wrap .u8 n=((byI n 0).toNat:Int):=by rw [wm,zA];simp
  have b1:IntKind.wrap .u8 (n/256)=((byI n 1).toNat:Int):=by rw [wm,zA];simp
  have ef:D9 [Cell.i .u8 0,.i .u8 0] [(0,1,.c (.i .u8 (byI n 0).toNat)),(1,1,.c (.i .u8 (byI n 1).toNat))]=some (A5 (A9 2 n)):=rfl;have ef5:D9 [Cell.i .u8 0,.i .u8 0,.i .u8 0,.i .u8 0,.i .u8 0] [(0,1,.c (.i .u8 0)),(1,1,.c (.i .u8 0)),(2,1,.c (.i .u8 0)),(3,1,.c (.i .u8 0)),(4,1,.c (.i .u8 0))]=some (A5 [0,0,0,0,0]):=rfl;have hP:=λh=>D5W hs h
  have hpl:(A5 (V9 s)).length=25:=by rw [A4];exact gD
  have hz:(A5 (zeros 25)).length=25:=by rw [A4];exact zeros_length
  have hA:=jX (h:=g++[rT [.s s,.i .i64 n],rT [],rT (A5 (A9 2 n)),rT (A5 (V9 s))]) (id:=g.length+2) (jd:=g.length+3) (n:=2) (m:=25) (sz:=1) (cs:=A5 (A9 2 n)) (ys:=A5 (V9 s)) (rw:=true) (by simp) (by simp [A4]) (by simp) (by rw [hpl]) rfl (by omega) (by omega);simp only [E43,E5a,E5u,E5l,E45,E5x,E5g,rD,E5M,E5L,Nat.reduceAdd,<-J9] at hA;have E1Z:(A5 (A9 2 n++V9 s)).length=27*1:=by rw [A4,E43,O7,gD]
  have hA2:=jX (h:=g++[rT [.s s,.i .i64 n],rT [],none,rT (A5 (V9 s)),rT (A5 (A9 2 n++V9 s)),rT (A5 [0,0,0,0,0])]) (id:=g.length+4) (jd:=g.length+5) (n:=27) (m:=5) (sz:=1) (cs:=A5 (A9 2 n++V9 s)) (ys:=A5 [0,0,0,0,0]) (rw:=true) (by simp) E1Z (by simp) rfl rfl (by omega) (by omega);simp only [E43,E5a,E5u,E5l,E45,E5x,E5g,rD,E5M,E5L,Nat.reduceAdd,<-J9] at hA2;rw [<-E45 (A9 2 n),show A9 2 n++V9 s++[0,0,0,0,0]=X3 s n from rfl] at hA2;rw [B1A,I5];refine ⟨sV (g.length+6) 0 32 1,g++[rT [.s s,.i .i64 n],rT [],none,rT (A5 (V9 s)),none,rT (A5 [0,0,0,0,0]),rT (A5 (X3 s n))],?_,by rw [A4,X4],g.length+6,rfl,by omega,?_⟩
  ·generalize X3 s n=E at *;generalize A9 2 n++V9 s=Q at *;generalize A5 [0,0,0,0,0]=F at *;generalize A5 (V9 s)=P at *;generalize A5 (A9 2 n)=B2 at *;generalize zeros 25=z at *;simp only [esc,esh,Nat.reduceAdd,Nat.reduceMul,Nat.reduceLT,b0,e4,b1,ef,hP,hpl,hz,hA,ef5,hA2]
  ·simp
 obtain ⟨v,g',e,ho⟩:=key (ro h);exact A8F e (by simpa [E7] using ho) (by simp)
def A1g (b:List UInt8) (k:Nat):List UInt8:=(b.drop (J2 k)).take 32
def nameB (b:List UInt8) (k:Nat):List UInt8:=(b.drop (J2 k+2)).take 25
def cH (b:List UInt8) (k:Nat):Int:=fieldN b (J2 k) 2
abbrev Ent:=List UInt8 × Int
def isE (b:List UInt8) (k:Nat) (s:List UInt8):Bool:=A1o s (cH b k)&&decide (X3 s (cH b k)=A1g b k)
def R0 (b:List UInt8) (k:Nat):Option Ent:=(cY (nameB b k)).bind λs=>if isE b k s=true then some (s,cH b k) else none
def V3:Option Ent->List Cell
 | none=>[.s [],o0]
 | some e=>[.s e.1,.i .i64 e.2]
theorem B7M {b:List UInt8} {k:Nat} (hb:b.length=256) (hk:k<7):(A1g b k).length=32:=by simp [A1g,J2,hb];omega
theorem A6G {b:List UInt8} {k:Nat} (hb:b.length=256) (hk:k<7):(nameB b k).length=25:=by simp [nameB,J2,hb];omega
theorem A6S {l s:List UInt8} (h:cY l=some s):U3 s=true:=by
 unfold cY at h;split at h
 ·split at h
  ·rename_i hc;cases h;exact hc.1
  ·cases h
 ·cases h
def cpN (l:List UInt8) (i:Nat):List UInt8:=l.take i++zeros (25-i)
theorem D4r {l:List UInt8} {i:Nat} (hl:l.length=25) (hi:i<=25):(cpN l i).length=25:=by simp [cpN,zeros,hl];omega
theorem D93 {l:List UInt8} {i:Nat} (hl:l.length=25) (hi:i<25):(cpN l i).set i l[i]=cpN l (i+1):=by
 unfold cpN;have hlen:(List.take i l).length=i:=by simp;omega
 rw [E5A _ _ (by omega),hlen,E5K,E5f (by omega),E45];refine congrArg (List.take i l ++ ·) ?_;have e:25-i=(25-(i+1))+1:=by omega
 rw [e];unfold zeros;rw [E5p,E5L];rfl
theorem D92 {l:List UInt8} (hl:l.length=25):cpN l 25=l:=by simp [cpN,zeros,E5b,hl]
theorem D2W {b:List UInt8} {k:Nat}:bN b (J2 k:Nat) 32=A1g b k:=by
 unfold bN A1g;rw [if_pos (by omega)];simp
theorem D5y {b:List UInt8} {k:Nat} (hk:k<7):((atN b (J2 k:Nat) 2:Nat):Int)=cH b k:=by
 unfold atN cH fieldN J2;rw [if_pos ⟨by omega,N2.2 (by omega)⟩];simp only [E5j];rfl
theorem C5G {b:List UInt8} {k q:Nat} {g:A6} (hb:b.length=256) (hk:k<7):∀ e i m:Nat,i+e=25->e<m ->
  ∃ h',A9N q m (iV (k:Int)) (pV g.length 0) (pV (g.length+1) 0) (pV (g.length+2) 0) (iV (i:Int)) (g++[rT (A5 b),rT [.s [],o0],rT (A5 (cpN (nameB b k) i))]) =
   some (.t [.a (V3 (R0 b k)),.c (.b (R0 b k).isSome)],h')
 | e,i,0,_,hm=>by omega
 | 0,i,m+1,hi,hm=>by
  have e0:i=25:=by omega
  subst e0;have hnl:=A6G hb hk;rw [D92 hnl];have c0:¬ ((25:Nat):Int)<25:=by omega
  have hbl:(A5 b).length=256:=by rw [A4,hb]
  have hnc:(A5 (nameB b k)).length=25:=by rw [A4,hnl]
  have hU:=λh=>D7v hnl h
  have hF:=λh=>nS (h:=h) hk
  have hA:=λh=>mK (h:=h) hb (a:=(J2 k:Nat)) (w:=2)
  rw [D5y hk] at hA;have ef:∀ (s:List UInt8) (n:Int),D9 [Cell.s [],o0] [(0,1,.c (.s s)),(1,1,iV n)]=some [.s s,.i .i64 n]:=λ_ _=>rfl
  have ef0:D9 [Cell.s [],o0] []=some [.s [],o0]:=rfl;rw [A18];unfold R0;cases hu:cY (nameB b k) with
  | none =>
   rw [hu] at hU;simp only [E5Q,E5o,Bool.false_eq_true,if_false] at hU;generalize cH b k=n at *;generalize A5 (nameB b k)=z at *;generalize A5 b=y at *;exact ⟨_,by simp only [esc,esh,Nat.reduceAdd,Nat.reduceMul,Nat.reduceLT,c0,hbl,hnc,hU,hF,hA,ef,ef0,Int.reduceEq,Option.bind_none,V3]<;>rfl⟩
  | some s =>
   rw [hu] at hU;simp only [E5G,E5h,if_true] at hU;have hfs:=(bY (A6S hu)).2;have hM:=λh=>A3x (s:=s) (n:=cH b k) (h:=h) (by omega)
   rw [E49];unfold isE;cases hm:A1o s (cH b k) with
   | false =>
    rw [hm] at hM;rw [E48,if_neg (by simp)];generalize cH b k=n at *;generalize A5 (nameB b k)=z at *;generalize A5 b=y at *;exact ⟨_,by simp only [esc,esh,Nat.reduceAdd,Nat.reduceMul,Nat.reduceLT,c0,hbl,hnc,hU,hF,hA,ef,ef0,hM,Int.reduceEq,V3]<;>rfl⟩
   | true =>
    rw [hm] at hM;rw [E5d];have hW:=λh=>qO (s:=s) (n:=cH b k) (h:=h) (by omega)
    have mI:=B7M hb hk;have hC:=λh=>B4T (h:=h) hb (a:=(J2 k:Nat)) (n:=32)
    rw [D2W,mI] at hC;have s1:=λ(c0 c1 c2 c3:Option Row)=>Has.str (l:=X3 s (cH b k)) (Has.row (h:=g++[c0,c1,c2,c3,rT (A5 (X3 s (cH b k)))]) (id:=g.length+4) (sz:=1) (n:=32) (rw:=true) (by simp) (by rw [A4,X4]) (F0 _))
    have s2:=λ(c0 c1 c2 c3 c4:Option Row)=>Has.str (l:=A1g b k) (Has.row (h:=g++[c0,c1,c2,c3,c4,rT (A5 (A1g b k))]) (id:=g.length+5) (sz:=1) (n:=32) (rw:=true) (by simp) (by rw [A4,mI]) (F0 _))
    by_cases ce:X3 s (cH b k)=A1g b k
    ·rw [if_pos (decide_eq_true ce)];generalize X3 s (cH b k)=E at *;generalize A1g b k=L at *;generalize cH b k=n at *;subst ce;generalize A5 (nameB b k)=z at *;generalize A5 b=y at *;exact ⟨_,by simp only [esc,esh,Nat.reduceAdd,Nat.reduceMul,Nat.reduceLT,c0,hbl,hnc,hU,hF,hA,ef,ef0,hM,hW,D87,s1,hC,D88,s2,eq_self,decide_true,Int.reduceEq,V3,E5h]<;>rfl⟩
    ·rw [if_neg (by rw [decide_eq_true_eq];exact ce)];generalize X3 s (cH b k)=E at *;generalize A1g b k=L at *;generalize cH b k=n at *;generalize A5 (nameB b k)=z at *;generalize A5 b=y at *;exact ⟨_,by simp only [esc,esh,Nat.reduceAdd,Nat.reduceMul,Nat.reduceLT,c0,hbl,hnc,hU,hF,hA,ef,ef0,hM,hW,D87,s1,hC,D88,s2,ce,Int.reduceEq,V3,E5o]<;>rfl⟩
 | e+1,i,m+1,hi,hm=>by
  obtain ⟨h',ih⟩:=C5G (q:=q) (g:=g) hb hk e (i+1) m (by omega) (by omega);have hnl:=A6G hb hk;have c0:(i:Int)<25:=by omega
  have hF:=λh=>nS (h:=h) hk
  have hbl:(A5 b).length=256:=by rw [A4,hb]
  have wL:(A5 (cpN (nameB b k) i)).length=25:=by rw [A4];exact D4r hnl (by omega)
  have U8:i<(A5 (cpN (nameB b k) i)).length:=by omega
  have w1:IntKind.wrap .i64 (((J2 k:Nat):Int)+2)=((J2 k+2:Nat):Int):=by unfold J2;rw [wrap_i64 (by omega) (by omega)];omega
  have w2:IntKind.wrap .i64 (((J2 k+2:Nat):Int)+(i:Int))=((J2 k+2+i:Nat):Int):=by unfold J2;rw [wrap_i64 (by omega) (by omega)];omega
  have hj:J2 k+2+i<256:=by unfold J2;omega
  have a1:J3 256 1 (pV g.length 0) (iV ((J2 k+2+i:Nat):Int))=some (pV g.length (J2 k+2+i)):=by rw [J4 hj];simp
  have a2:J3 25 1 (pV (g.length+2) 0) (iV (i:Int))=some (pV (g.length+2) i):=by rw [J4 (by omega)];simp
  have ei:(nameB b k)[i]'(by omega)=b[J2 k+2+i]'(by omega):=by simp [nameB]
  have l1:(A5 b)[J2 k+2+i]?=some (.i .u8 ((nameB b k)[i]'(by omega)).toNat):=by
   rw [ei];simp [A5,hb,hj]
  have hs:(A5 (cpN (nameB b k) i)).set i (.i .u8 ((nameB b k)[i]'(by omega)).toNat)=A5 (cpN (nameB b k) (i+1)):=by rw [gJ,D93 hnl (by omega)]
  rw [A18];refine ⟨h',?_⟩;generalize A5 (cpN (nameB b k) (i+1))=z1 at *;generalize A5 (cpN (nameB b k) i)=z at *;generalize A5 b=y at *;simp only [esc,esh,Nat.reduceAdd,Nat.reduceMul,Nat.reduceLT,c0,hF,w1,w2,a1,l1,a2,U8,hs,C6 (show i+1<9223372036854775808 by omega)];exact ih
theorem C9T {o:Option Ent}:N7 (V3 o)=true:=by cases o<;>rfl
theorem A9M {b:List UInt8} {k:Nat} {h:A6} (hb:b.length=256) (hk:k<7):A26 [.a (A5 b),iV (k:Int)] h=some (.t [.a (V3 (R0 b k)),.c (.b (R0 b k).isSome)],h):=by
 have key:∀ N,25<N->∀ g,∃ g',A2H N [.a (A5 b),iV (k:Int)] g=some (.t [.a (V3 (R0 b k)),.c (.b (R0 b k).isSome)],g'):=by
  intro N hN g;obtain ⟨h',e⟩:=C5G (g:=g) (q:=N) hb hk 25 0 N (by omega) hN;have e0:cpN (nameB b k) 0=zeros 25:=by simp [cpN]
  rw [e0] at e;rw [B7Y,I5];generalize zeros 25=z at *;generalize A5 b=y at *;exact ⟨h',by simp only [esc,esh,Nat.reduceAdd,Nat.reduceMul,Nat.reduceLT];exact e⟩
 obtain ⟨g',e⟩:=key (h.length+26) (by omega) (ro h);exact B3E e (by simp [Val.flat,C9T,Cell.flat])
abbrev Slt:=Nat × Ent
def slC:Option Slt->List Cell
 | none=>[o0,.s [],o0]
 | some x=>[.i .i64 (x.1:Int),.s x.2.1,.i .i64 x.2.2]
theorem kW {o:Option Slt}:(slC o).length=3:=by cases o<;>rfl
theorem D3Y {o:Option Slt}:N7 (slC o)=true:=by cases o<;>rfl
def Z6 (b nm:List UInt8):Nat->Nat->Option Slt
 | 0,_=>none
 | e+1,k=>match R0 b k with
  | some x=>if x.1=nm then some (k,x) else Z6 b nm e (k+1)
  | none=>Z6 b nm e (k+1)
theorem A3J {b nm:List UInt8} {e k:Nat} (hx:R0 b k=none):Z6 b nm (e+1) k=Z6 b nm e (k+1):=by rw [Z6,hx]
theorem A6u {b nm:List UInt8} {e k:Nat} {n:Int} (hx:R0 b k=some (nm,n)):Z6 b nm (e+1) k=some (k,(nm,n)):=by rw [Z6,hx];simp
theorem A3I {b nm s:List UInt8} {e k:Nat} {n:Int} (hx:R0 b k=some (s,n)) (T5:s≠nm):Z6 b nm (e+1) k=Z6 b nm e (k+1):=by rw [Z6,hx];simp [T5]
def V8 (b nm:List UInt8):Option Slt:=Z6 b nm 7 0
theorem D8j {k n:Int} {s nm:List UInt8} {r1 r2 r3:Nat} {h:A6} (h1:rd h r1=rT [.s nm]) (h3:rd h r3=rT [.b false]) (T5:s≠nm) :
  gH [.a [.i .i64 k,.s s,.i .i64 n],pV r1 0,pV r2 0,pV r3 0] h=some (bV true,h++[rT [.i .i64 k,.s s,.i .i64 n]]):=by
 refine A0y (n:=0) ?_;have l1:B4 (h++[rT [.i .i64 k,.s s,.i .i64 n]]) (pV r1 0)=some (.c (.s nm)):=B5 (cs:=[.s nm]) (B6 h1) rfl rfl;have l3:B4 (h++[rT [.i .i64 k,.s s,.i .i64 n]]) (pV r3 0)=some (bV false):=B5 (cs:=[.b false]) (B6 h3) rfl rfl;rw [A0m];simp only [esc,esh,Nat.reduceAdd,Nat.reduceMul,Nat.reduceLT,l1,T5,xZ,l3]<;>rfl
theorem D6D {k n:Int} {nm:List UInt8} {c2:List Cell} {r1 r2 r3:Nat} {h:A6} (h1:rd h r1=rT [.s nm]) (h2:rd h r2=rT c2) (hl:c2.length=3) (h3:rd h r3=rT [.b false]) (h23:r2≠r3) :
  gH [.a [.i .i64 k,.s nm,.i .i64 n],pV r1 0,pV r2 0,pV r3 0] h=some (bV false,((h++[rT [.i .i64 k,.s nm,.i .i64 n]]).set r2 (rT [.i .i64 k,.s nm,.i .i64 n])).set r3 (rT [.b true])):=by
 refine A0y (n:=0) ?_;have l1:B4 (h++[rT [.i .i64 k,.s nm,.i .i64 n]]) (pV r1 0)=some (.c (.s nm)):=B5 (cs:=[.s nm]) (B6 h1) rfl rfl;have s2:=storeAll (h:=h++[rT [.i .i64 k,.s nm,.i .i64 n]]) (id:=r2) (n:=3) (xs:=[.i .i64 k,.s nm,.i .i64 n]) (B6 h2) hl rfl;have h3':rd ((h++[rT [.i .i64 k,.s nm,.i .i64 n]]).set r2 (rT [.i .i64 k,.s nm,.i .i64 n])) r3=rT [.b false]:=by rw [A7 h23];exact B6 h3
 have s3:=F5 (x:=.b true) (off:=0) h3' (by simp);have l4:B4 (((h++[rT [.i .i64 k,.s nm,.i .i64 n]]).set r2 (rT [.i .i64 k,.s nm,.i .i64 n])).set r3 (rT [.b true])) (pV r3 0)=some (bV true):=B5 (cs:=[.b true]) (B7 (by simpa using C5 h3')) rfl rfl;rw [A0m];have s3:F9 ((h++[rT [.i .i64 k,.s nm,.i .i64 n]]).set r2 (rT [.i .i64 k,.s nm,.i .i64 n])) (pV r3 0) (bV true)=some (((h++[rT [.i .i64 k,.s nm,.i .i64 n]]).set r2 (rT [.i .i64 k,.s nm,.i .i64 n])).set r3 (rT [.b true])):=s3;simp only [esc,esh,Nat.reduceAdd,Nat.reduceMul,Nat.reduceLT,l1,s2,s3,xZ,l4]<;>rfl
theorem B9G {b nm:List UInt8} {r0 r1 r2 r3 q:Nat} {B:A6} (hb:b.length=256) (hB1:rd B r1=rT [.s nm]) (zN:B.length<=r2) (hr3:B.length<=r3) (h23:r2≠r3) (h02:r0≠r2) (h03:r0≠r3):∀ (e k m:Nat) (h:A6),k+e=7->e<m->Low B.length B h ->
  rd h r2=rT (slC none)->rd h r3=rT [.b false]->rd h r0=rT (A5 b) ->
  ∃ h',qM q m (.c (.f 151 [(r1,0),(r2,0),(r3,0)])) (pV r0 0) (iV (k:Int)) h=some (.t [],h')/\Low B.length B h'/\rd h' r2=rT (slC (Z6 b nm e k))/\rd h' r3=rT [.b (Z6 b nm e k).isSome]
 | e,k,0,h,_,hm,_,_,_,_=>by omega
 | 0,k,m+1,h,hk,hm,hlow,h2,h3,h0=>by
  have e0:k=7:=by omega
  subst e0;have c0:¬ ((7:Nat):Int)<7:=by omega
  refine ⟨h,?_,hlow,h2,h3⟩;rw [mU];simp only [esc,c0]<;>rfl
 | e+1,k,m+1,h,hk,hm,hlow,h2,h3,h0=>by
  have c0:(k:Int)<7:=by omega
  have hbl:(A5 b).length=256:=by rw [A4,hb]
  have s1:=B8 (h:=h) (id:=r0) h0 hbl;have hR:=A9M (h:=h) (k:=k) hb (by omega);have w1:=C6 (show k+1<9223372036854775808 by omega);have hcv:∀ (x:Val) (h:A6),A2a rR (.c (.f 151 [(r1,0),(r2,0),(r3,0)])) [x] h=gH [x,pV r1 0,pV r2 0,pV r3 0] h:=λ_ _=>Eq.trans rfl rfl
  rw [mU];cases hx:R0 b k with
  | none =>
   rw [hx] at hR;rw [A3J hx];obtain ⟨h',f1,f2⟩:=B9G (q:=q) hb hB1 zN hr3 h23 h02 h03 e (k+1) m (h++[rT ([.s [],o0])]) (by omega) (by omega) (hlow.new _) (B6 h2) (B6 h3) (B6 h0);refine ⟨h',?_,f2⟩;generalize A5 b=y at *;simp only [esc,esh,Nat.reduceAdd,Nat.reduceMul,Nat.reduceLT,c0,s1,hR,V3,E5o,w1];exact f1
  | some x =>
   obtain ⟨s,n⟩:=x;rw [hx] at hR;have ef:D9 [o0,.s [],o0] [(0,1,iV (k:Int)),(1,2,.a [.s s,.i .i64 n])]=some [.i .i64 (k:Int),.s s,.i .i64 n]:=rfl;have h1':rd (h++[rT [.s s,.i .i64 n]]) r1=rT [.s nm]:=B6 (hlow.rd hB1);by_cases ce:s=nm
   ·subst ce;have hF:=D6D (k:=(k:Int)) (n:=n) h1' (B6 h2) kW (B6 h3) h23;simp only [E45,E5x,E5g] at hF;rw [A6u hx];refine ⟨((h++[rT [.s s,.i .i64 n],rT [.i .i64 (k:Int),.s s,.i .i64 n]]).set r2 (rT [.i .i64 (k:Int),.s s,.i .i64 n])).set r3 (rT [.b true]),?_,((hlow.new [rT [.s s,.i .i64 n],rT [.i .i64 (k:Int),.s s,.i .i64 n]]).set zN _).set hr3 _,?_,?_⟩
    ·generalize A5 b=y at *;simp only [esc,esh,Nat.reduceAdd,Nat.reduceMul,Nat.reduceLT,c0,s1,hR,V3,E5h,ef,hcv,hF]<;>rfl
    ·rw [A7 (Ne.symm h23)];exact B7 (C5 (B6 h2))
    ·exact B7 (by rw [E5w];exact C5 (B6 h3))
   ·have hF:=D8j (k:=(k:Int)) (n:=n) (r2:=r2) h1' (B6 h3) ce;simp only [E45,E5x,E5g] at hF;rw [A3I hx ce];obtain ⟨h',f1,f2⟩:=B9G (q:=q) hb hB1 zN hr3 h23 h02 h03 e (k+1) m (h++[rT [.s s,.i .i64 n],rT [.i .i64 (k:Int),.s s,.i .i64 n]]) (by omega) (by omega) (hlow.new _) (B6 h2) (B6 h3) (B6 h0);refine ⟨h',?_,f2⟩;generalize A5 b=y at *;simp only [esc,esh,Nat.reduceAdd,Nat.reduceMul,Nat.reduceLT,c0,s1,hR,V3,E5h,ef,hcv,hF,w1];exact f1
theorem A9L {b nm:List UInt8} {h:A6} (hb:b.length=256):A2Z [.a (A5 b),.c (.s nm)] h=some (.t [.a (slC (V8 b nm)),.c (.b (V8 b nm).isSome)],h):=by
 have key:∀ g,∃ g',A2C 0 [.a (A5 b),.c (.s nm)] g=some (.t [.a (slC (V8 b nm)),.c (.b (V8 b nm).isSome)],g'):=by
  intro g;have hbl:(A5 b).length=256:=by rw [A4,hb]
  have emk:B4t 151 [pV (g.length+1) 0,pV (g.length+3) 0,pV (g.length+4) 0]=some (.c (.f 151 [(g.length+1,0),(g.length+3,0),(g.length+4,0)])):=rfl;obtain ⟨h',f1,f2,f3,f4⟩:=B9G (b:=b) (nm:=nm) (r0:=g.length+5) (r1:=g.length+1) (r2:=g.length+3) (r3:=g.length+4) (q:=8) (B:=g++[rT (A5 b),rT [.s nm],rT (slC none)]) hb (by simp) (by simp) (by simp) (by omega) (by omega) (by omega) 7 0 8 (g++[rT (A5 b),rT [.s nm],rT (slC none),rT (slC none),rT [.b false],rT (A5 b)]) (by omega) (by omega)
   (by have:=(Low.refl (h:=g++[rT (A5 b),rT [.s nm],rT (slC none)]) (E44 _)).new [rT (slC none),rT [.b false],rT (A5 b)];simpa using this) (by simp) (by simp) (by simp)
  have hS:iH [.a (A5 b),.c (.f 151 [(g.length+1,0),(g.length+3,0),(g.length+4,0)])] (g++[rT (A5 b),rT [.s nm],rT (slC none),rT (slC none),rT [.b false]])=some (.t [],h'):=by
   refine A20 (n:=8) ?_;rw [A2D];simp only [esc,esh,Nat.reduceAdd,Nat.reduceMul,Nat.reduceLT];exact f1
  have hr:rd h' (g.length+2)=rT (slC none):=by rw [f2.2.2 _ (by simp)];simp
  change rd h' (g.length+3)=rT (slC (V8 b nm)) at f3;change rd h' (g.length+4)=rT [.b (V8 b nm).isSome] at f4;have t1:=B8 (n:=3) f3 kW;have t2:B4 h' (pV (g.length+4) 0)=some (bV (V8 b nm).isSome):=B5 (cs:=[.b (V8 b nm).isSome]) f4 rfl rfl;have t3:=storeAll (n:=3) (xs:=slC (V8 b nm)) hr kW kW;have f4':rd (h'.set (g.length+2) (rT (slC (V8 b nm)))) (g.length+4)=rT [.b (V8 b nm).isSome]:=by rw [A7 (by omega)];exact f4
  have t4:B4 (h'.set (g.length+2) (rT (slC (V8 b nm)))) (pV (g.length+4) 0)=some (bV (V8 b nm).isSome):=B5 (cs:=[.b (V8 b nm).isSome]) f4' rfl rfl;have t5:=B8 (n:=3) (B7 (x:=rT (slC (V8 b nm))) (C5 hr)) kW;have z0:[o0,.s [],o0]=slC none:=rfl;rw [B7U,z0];generalize slC (V8 b nm)=Y at *;generalize slC none=Z at *;generalize (V8 b nm).isSome=S at *;generalize A5 b=y at *;exact ⟨_,by simp only [esc,esh,Nat.reduceAdd,Nat.reduceMul,Nat.reduceLT,hbl,emk,hS,t1,t2,t3,t4,t5]<;>rfl⟩
 obtain ⟨g',e⟩:=key (ro h);exact B3B e (by simp [Val.flat,D3Y,Cell.flat])
def A07 (X:List Int) (nm:List UInt8):Nat:=xT nm%B9 (X.headD 0)
def P8 (X:List Int) (nm:List UInt8):Int:=X.tail.getD (A07 X nm) 0
theorem D3g (X:List Int) (nm:List UInt8):A07 X nm<32:=by
 have h1:=N8 (X.headD 0);have h2:0<B9 (X.headD 0):=by unfold B9;exact Nat.two_pow_pos _
 have:=Nat.mod_lt (xT nm) h2;unfold A07;omega
abbrev Plc:=Int × Nat × Int
def rF (l:List Slt):List Cell:=(l.map λx=>slC (some x)).flatten
theorem wU {l:List Slt}:(rF l).length=l.length*3:=by
 induction l with
 | nil=>rfl
 | cons x l ih=>simp only [rF,E50,List.flatten_cons,E43,kW,E5a] at ih ⊢;omega
theorem D7m {l:List Slt} {x:Slt}:rF (l++[x])=rF l++slC (some x):=by simp [rF]
theorem D7l {l:List Slt}:N7 (rF l)=true:=by
 induction l with
 | nil=>rfl
 | cons x l ih =>
  have:rF (x::l)=slC (some x)++rF l:=rfl;rw [this,zJ,D3Y,ih];rfl
theorem D8T {l:List Slt}:noX (rF l)=true:=by
 induction l with
 | nil=>rfl
 | cons x l ih =>
  have:rF (x::l)=[.i .i64 (x.1:Int),.s x.2.1,.i .i64 x.2.2]++rF l:=rfl;rw [this];simp [noX,Cell.isX] at ih ⊢;exact ih
def M6 (b:List UInt8):Nat->Nat->List Slt
 | 0,_=>[]
 | e+1,k=>match R0 b k with
  | some x=>(k,x)::M6 b e (k+1)
  | none=>M6 b e (k+1)
def N1 (b:List UInt8):List Slt:=M6 b 7 0
theorem vI {b:List UInt8} {e k:Nat} (hx:R0 b k=none):M6 b (e+1) k=M6 b e (k+1):=by rw [M6,hx]
theorem vJ {b:List UInt8} {e k:Nat} {x:Ent} (hx:R0 b k=some x):M6 b (e+1) k=(k,x)::M6 b e (k+1):=by rw [M6,hx]
theorem E1C {h:A6} {jd m sz:Nat} {ys:List Cell} (hy:rd h jd=rT ys) (hyl:ys.length=m*sz) (hsz:0<sz) (hn:m<=1073741824) :
  jK h sz (.c .ns) (sV jd 0 m sz)=some (sV h.length 0 m sz,h++[rT ys]):=by
 have h2:O5 h sz (sV jd 0 m sz)=some ys:=by
  simp only [O5,if_true,gF,hy,E49,E5k,E5l];rw [<-hyl,List.take_length,if_pos ⟨E44 _,rfl⟩]
 have e1:ys.length/sz=m:=by rw [hyl];exact Nat.mul_div_cancel _ hsz
 simp only [jK,h2,E49];rw [e1,if_pos hn]
def Held (h:A6) (x:Cell) (l:List Slt) (b r0 r:Nat):Prop:=(l=[]/\x=.ns)\/∃ id,x=.sl id 0 l.length 3/\rd h id=rT (rF l)/\b<=id/\id≠r0/\id≠r
theorem Held.more {h:A6} {x:Cell} {l:List Slt} {b r0 r:Nat} (hd:Held h x l b r0 r) (t:A6):Held (h++t) x l b r0 r:=by
 rcases hd with hd | ⟨id,h1,h2,h3⟩
 ·exact .inl hd
 ·exact .inr ⟨id,h1,B6 h2,h3⟩
theorem D8I {k:Nat} {n:Int} {s:List UInt8} {x:Cell} {l:List Slt} {r0 r:Nat} {B h:A6} {c0:List Cell} (hlow:Low B.length B h) (hr:rd h r=rT [x]) (h0:rd h r0=rT c0) (h0r:r0≠r) (hBr:B.length<=r) (hB0:B.length<=r0) (hd:Held h x l B.length r0 r) (hl:l.length<=7) :
  ∃ x' h',nN [.a [.i .i64 (k:Int),.s s,.i .i64 n],pV r 0] h=some (bV true,h')/\Low B.length B h'/\rd h' r=rT [x']/\rd h' r0=rT c0/\Held h' x' (l++[(k,(s,n))]) B.length r0 r:=by
 have U8:=C5 hr;have E4W:=C5 h0;have l1:B4 (h++[rT [.i .i64 (k:Int),.s s,.i .i64 n]]) (pV r 0)=some (.c x):=B5 (cs:=[x]) (B6 hr) rfl (by simp);have ef:D9 [o0,.s [],o0] [(0,3,.a [.i .i64 (k:Int),.s s,.i .i64 n])]=some [.i .i64 (k:Int),.s s,.i .i64 n]:=rfl;have hBh:=hlow.2.1;rcases hd with ⟨rfl,rfl⟩ | ⟨id,rfl,hi,hbi,hi0,hir⟩
 ·have hA:=E1C (h:=h++[rT [.i .i64 (k:Int),.s s,.i .i64 n],rT [.i .i64 (k:Int),.s s,.i .i64 n]]) (jd:=h.length+1) (m:=1) (sz:=3) (ys:=[.i .i64 (k:Int),.s s,.i .i64 n]) (by simp) rfl (by omega) (by omega);simp only [E43,E5a,E5u,E5l,E45,E5x,E5g,Nat.reduceAdd] at hA;have zN:rd (h++[rT [.i .i64 (k:Int),.s s,.i .i64 n],rT [.i .i64 (k:Int),.s s,.i .i64 n],rT [.i .i64 (k:Int),.s s,.i .i64 n]]) r=rT [.ns]:=B6 hr;have t1:=F5 (x:=.sl (h.length+2) 0 1 3) (off:=0) zN (by simp);refine ⟨.sl (h.length+2) 0 1 3,_,A0z (n:=0) (by rw [A0n];simp only [esc,esh,Nat.reduceAdd,Nat.reduceMul,Nat.reduceLT,l1,ef,hA,t1]<;>rfl),(hlow.new _).set hBr _,?_,?_,.inr ⟨h.length+2,rfl,?_,by omega,by omega,by omega⟩⟩
  ·exact B7 (C5 zN)
  ·rw [A7 (Ne.symm h0r)];exact B6 h0
  ·rw [A7 (by omega)];simp [rF,slC]
 ·have hA:=jX (h:=h++[rT [.i .i64 (k:Int),.s s,.i .i64 n],rT [.i .i64 (k:Int),.s s,.i .i64 n]]) (id:=id) (jd:=h.length+1) (n:=l.length) (m:=1) (sz:=3) (cs:=rF l) (ys:=[.i .i64 (k:Int),.s s,.i .i64 n]) (rw:=true) (B6 hi) wU (by simp) rfl rfl (by omega) (by omega);have hli:=C5 hi;have es:(h++[rT [.i .i64 (k:Int),.s s,.i .i64 n],rT [.i .i64 (k:Int),.s s,.i .i64 n]]).length=h.length+2:=by simp
  rw [es] at hA;have zN:rd ((h++[rT [.i .i64 (k:Int),.s s,.i .i64 n],rT [.i .i64 (k:Int),.s s,.i .i64 n]]).set id none++[rT (rF l++[.i .i64 (k:Int),.s s,.i .i64 n])]) r=rT [.sl id 0 l.length 3]:=by
   refine B6 ?_;rw [A7 hir];exact B6 hr
  have t1:=F5 (x:=.sl (h.length+2) 0 (l.length+1) 3) (off:=0) zN (by simp);refine ⟨.sl (h.length+2) 0 (l.length+1) 3,_,A0z (n:=0) (by rw [A0n];simp only [esc,esh,Nat.reduceAdd,Nat.reduceMul,Nat.reduceLT,l1,ef,hA,t1]<;>rfl),(((hlow.new _).set hbi _).new _).set hBr _,?_,?_,.inr ⟨h.length+2,by simp,?_,by omega,by omega,by omega⟩⟩
  ·exact B7 (C5 zN)
  ·rw [A7 (Ne.symm h0r)];refine B6 ?_;rw [A7 hi0];exact B6 h0
  ·rw [A7 (by omega),D7m];have:((h++[rT [.i .i64 (k:Int),.s s,.i .i64 n],rT [.i .i64 (k:Int),.s s,.i .i64 n]]).set id none).length=h.length+2:=by simp
   rw [<-this];exact S8
theorem B9H {b:List UInt8} {r0 r q:Nat} {B:A6} (hb:b.length=256) (h0r:r0≠r) (hBr:B.length<=r) (hB0:B.length<=r0):∀ (e k m:Nat) (h:A6) (x:Cell) (l:List Slt),k+e=7->e<m->l.length<=k->Low B.length B h ->
  rd h r=rT [x]->rd h r0=rT (A5 b)->Held h x l B.length r0 r ->
  ∃ x' h',qN q m (.c (.f 212 [(r,0)])) (pV r0 0) (iV (k:Int)) h=some (.t [],h')/\Low B.length B h'/\rd h' r=rT [x']/\Held h' x' (l++M6 b e k) B.length r0 r
 | e,k,0,h,x,l,_,hm,_,_,_,_,_=>by omega
 | 0,k,m+1,h,x,l,hk,hm,hl,hlow,hr,h0,hd=>by
  have e0:k=7:=by omega
  subst e0;have c0:¬ ((7:Nat):Int)<7:=by omega
  refine ⟨x,h,?_,hlow,hr,by rw [M6,E5t];exact hd⟩;rw [mV];simp only [esc,c0]<;>rfl
 | e+1,k,m+1,h,x,l,hk,hm,hl,hlow,hr,h0,hd=>by
  have c0:(k:Int)<7:=by omega
  have hbl:(A5 b).length=256:=by rw [A4,hb]
  have s1:=B8 (h:=h) (id:=r0) h0 hbl;have hR:=A9M (h:=h) (k:=k) hb (by omega);have w1:=C6 (show k+1<9223372036854775808 by omega);have hcv:∀ (x:Val) (h:A6),A2a rS (.c (.f 212 [(r,0)])) [x] h=nN [x,pV r 0] h:=λ_ _=>Eq.trans rfl rfl
  rw [mV];cases hx:R0 b k with
  | none =>
   rw [hx] at hR;rw [vI hx];obtain ⟨x',h',f1,f2⟩:=B9H (q:=q) hb h0r hBr hB0 e (k+1) m (h++[rT ([.s [],o0])]) x l (by omega) (by omega) (by omega) (hlow.new _) (B6 hr) (B6 h0) (hd.more _);refine ⟨x',h',?_,f2⟩;generalize A5 b=y at *;simp only [esc,esh,Nat.reduceAdd,Nat.reduceMul,Nat.reduceLT,c0,s1,hR,V3,E5o,w1];exact f1
  | some en =>
   obtain ⟨s,n⟩:=en;rw [hx] at hR;rw [vJ hx];have ef:D9 [o0,.s [],o0] [(0,1,iV (k:Int)),(1,2,.a [.s s,.i .i64 n])]=some [.i .i64 (k:Int),.s s,.i .i64 n]:=rfl;obtain ⟨x1,h1,g1,g2,g3,g4,g5⟩:=D8I (k:=k) (n:=n) (s:=s) (hlow.new [rT [.s s,.i .i64 n]]) (B6 hr) (B6 h0) h0r hBr hB0 (hd.more _) (by omega);obtain ⟨x',h',f1,f2,f3,f4⟩:=B9H (q:=q) hb h0r hBr hB0 e (k+1) m h1 x1 (l++[(k,(s,n))]) (by omega) (by omega) (by simp;omega) g2 g3 g4 g5;rw [E45,List.singleton_append] at f4;refine ⟨x',h',?_,f2,f3,f4⟩;generalize A5 b=y at *;simp only [esc,esh,Nat.reduceAdd,Nat.reduceMul,Nat.reduceLT,c0,s1,hR,V3,E5h,ef,hcv,g1,w1];exact f1
theorem A7h {b:List UInt8} {h:A6} (hb:b.length=256):∃ v t,vA [.a (A5 b)] h=some (v,h++t)/\Has (h++t) v 3 (N1 b).length (rF (N1 b))/\(t=[]/\v=.c .ns/\N1 b=[]\/t=[rT (rF (N1 b))]/\v=sV h.length 0 (N1 b).length 3):=by
 have key:∀ g,∃ x g',uZ 8 [.a (A5 b)] g=some (.c x,g')/\Held g' x (N1 b) g.length (g.length+3) (g.length+2):=by
  intro g;have hbl:(A5 b).length=256:=by rw [A4,hb]
  have emk:B4t 212 [pV (g.length+2) 0]=some (.c (.f 212 [(g.length+2,0)])):=rfl;obtain ⟨x,h',f1,f2,f3,f4⟩:=B9H (b:=b) (r0:=g.length+3) (r:=g.length+2) (q:=8) (B:=g) hb (by omega) (by omega) (by omega) 7 0 8 (g++[rT (A5 b),rT [],rT [.ns],rT (A5 b)]) .ns [] (by omega) (by omega) (by simp)
   ((Low.refl (E44 _)).new _) (by simp) (by simp) (.inl ⟨rfl,rfl⟩)
  have hS:iI [.a (A5 b),.c (.f 212 [(g.length+2,0)])] (g++[rT (A5 b),rT [],rT [.ns]])=some (.t [],h'):=by
   refine A22 (n:=8) ?_;rw [A2E];simp only [esc,esh,Nat.reduceAdd,Nat.reduceMul,Nat.reduceLT];exact f1
  have t1:B4 h' (pV (g.length+2) 0)=some (.c x):=B5 (cs:=[x]) f3 rfl (by simp);rw [B7V];generalize A5 b=y at *;exact ⟨x,h',by simp only [esc,esh,Nat.reduceAdd,Nat.reduceMul,Nat.reduceLT,hbl,emk,hS,t1],f4⟩
 obtain ⟨x,g',e,hd⟩:=key (ro h);rcases hd with ⟨hl,rfl⟩ | ⟨id,rfl,hr,hbi,_⟩
 ·refine ⟨.c .ns,[],?_,?_,.inl ⟨rfl,rfl,hl⟩⟩
  ·rw [E5t];exact B5S e (by simp [Val.low,Cell.low,Cell.flat])
  ·rw [hl];exact .inl ⟨rfl,rfl,rfl⟩
 ·rw [E7] at hbi;refine ⟨sV h.length 0 (N1 b).length 3,[rT (rF (N1 b))],B5T e ⟨wU,id,rfl,hbi,hr⟩ D7l,Has.row (rw:=true) (by simp) wU D8T,.inr ⟨rfl,rfl⟩⟩
abbrev Tld:=Plc × List UInt8
theorem D6c {l:List Slt}:∀ {i:Nat} {x:Slt},l[i]?=some x->((rF l).drop (i*3)).take 3=slC (some x):=by
 induction l with
 | nil=>intro i x h;simp at h
 | cons y l ih =>
  intro i x h;have e:rF (y::l)=slC (some y)++rF l:=rfl;cases i with
  | zero=>simp at h;subst h;rw [e];rfl
  | succ i =>
   simp at h;rw [e,show (i+1)*3=3+i*3 by omega,<-E5W,List.drop_left' (by rw [kW])];exact ih h
theorem dI (b:List UInt8):(N1 b).length<=7:=by
 have:∀ e k,(M6 b e k).length<=e:=by
  intro e
  induction e with
  | zero=>intro k;simp [M6]
  | succ e ih =>
   intro k;have:=ih (k+1);rw [M6];split<;>simp<;>omega
 exact this 7 0
end Go.Proofs.YtbnkgnfhgbhblaaGreat
namespace Go.Proofs.YtbnkgnfhgbhblaaGreat
open Go Go.Esc
set_option maxRecDepth 100000
noncomputable section
variable (n m m2:Nat) (a0 a1 x0 x1 x3 x4 x5 x6:Val) (h:A6)
def lO:FD Tryz.prog:=⟨px 0X172112121cc315607c1c38131801321121224672e2a82f627c7f17c68b1c7c307c3602b627c06881c003a11a4b30321530230702461e17c6388001c2c142f30323023302060510130220301321121224671e2a81f62487f048360671e2a81b62387f038360672a2a81c9651e7f61e38b01e3605617c6388041282b0220133211012,[.c (.b false),.c (.b true),.c (.s [46]),.c (.s [46,46]),.c (.i .u8 0),.c (.i .u8 47)],[.idxS (.t 26) (.t 27),.idxS (.t 31) (.t 32)],[.tmp 2],[]⟩
def B5E:=lO.R
def B2D:AtH:=lO.lj 0 n [m] [x0,x3]
def B6u:=tT [⟨2,2,B2D⟩]
def C13:=mR B5E lO B6u n [a0] h
def A4w:=mL lO B6u 0 n [m] [x0,x3] h
def B5i:=lO.K Tryz.func246
def A5O:=lO.S
theorem A67:SOk Tryz.prog 246 A5O:=B5i.sok
theorem B53:E5 B5E A5O:=B5i.flat
def fA:FD Tryz.prog:=⟨px 0X11d8211c3a1221268415607c3e1b13181cc3161a13cc31017113fc1c2f14181b83162e13cc61017113fc06887e0007a07182461e17c6388004e1d14284304215430311a070241c9617c2e19121a43042430334303060510143032313483161017113fc64f8638805153022123b91012,[.c (.i .u8 0)],[.idxS (.t 18) (.t 19)],[.tmp 2],[]⟩
def C0H:=fA.R
def B6T:AtH:=fA.lj 0 n [m] [x0,x3,x4]
def B6S:AtH:=fA.lj 1 n [m] [x0,x3,x4]
def A9z:=tT [⟨2,3,B6T⟩,⟨2,3,B6S⟩]
def C31:=mR C0H fA A9z n [a0] h
def A7l:=mL fA A9z 0 n [m] [x0,x3,x4] h
def C25:=mJ fA A9z 1 n [m] [x0,x3,x4] h
def B98:=fA.K Tryz.func229
def A8V:=fA.S
theorem A8W:SOk Tryz.prog 229 A8V:=B98.sok
theorem C2y:pE C0H A8V:=B98.out
def uO:FD Tryz.prog:=⟨px 0X11f02882128481332220170321232222461f3a2a866a2bf61a226a1af06a36116a1af286a36062bc6101ac282e11a3f4224131ac41168806886507c64dc61c1611980001e11940220170321232222461f2e2a81b65287f6281f1612819b0283601cd637c61c8051191d022013703212012,[.c (.s []),.c (.b false),.c (.i .u8 24),.c (.b true)],[.slL 1 (.t 14) (some (.v (.c (.i .i64 1)))) (some (.t 19)),.b2s (.t 20)],[.tmp 2,.tmp 3],[cal A67,cal A8W,cal dV]⟩
def A2I:=uO.R
def B72:=mR A2I uO (tT []) n [a0] h
def B1W:=uO.K Tryz.func223
def A28:=uO.S
theorem B8A:SOk Tryz.prog 223 A28:=B1W.sok
theorem B3N:E5 A2I A28:=B1W.flat
def oF:FD Tryz.prog:=⟨px 0X12a84161e17c63884063880481641218c515607c5e281318011fc4162a17c236882c04026882c00060194132462a37c116882c04006887a002a160193851043155103307024362e2a861e12d7f62d38b42d33a2d36061e17c638800601a1f51042510335103060510151032102334111022,[.c (.b false)],[.idxS (.t 18) (.t 19),.idxS (.t 21) (.t 22),.idxS (.t 25) (.t 26),.idxS (.t 28) (.t 29)],[.tmp 4],[]⟩
def C0G:=oF.R
def B6R:AtH:=oF.lj 0 n [m] [x0,x1,x5]
def C0T:=tT [⟨2,3,B6R⟩]
def C30:=mR C0G oF C0T n [a0,a1] h
def A7k:=mL oF C0T 0 n [m] [x0,x1,x5] h
def B97:=oF.K Tryz.func227
def A8U:=oF.S
theorem C4G:SOk Tryz.prog 227 A8U:=B97.sok
theorem B8z:E5 C0G A8U:=B97.flat
def aE:FD Tryz.prog:=⟨px 0X3983161e13cc61013113fc2c01c5f1518012f8211c022122462bc285c125d530425303368615607c2e1b131802dc011b4161c61a11983800050192461b3e2a861a201881af2c188361881f61a118819b381883018836062bc2801a4f654306203724366e2a86492bf62e20491af36491f61a14919b3849304936491f62a14919b567497f6491cb7e4937a493601657c61c85a1d11e0193d654306365430533565430521a2702461e17c61c8006041a65430626543053654305162510165430525430437015430423014303215302060513b813022123b91012,[.c (.b false),.c (.s []),.c (.b true)],[],[.tmp 2],[cal C4G]⟩
def A8g:=aE.R
def A6r:AtH:=aE.lj 0 n [m] [x0,x3]
def B6U:AtH:=aE.lj 1 n [m,m2] [x0,x3,x4,x5,x6]
def D1k:AtH:=aE.lj 2 n [m,m2] [x0,x3,x4,x5,x6]
def A15:=tT [⟨2,2,A6r⟩,⟨3,5,B6U⟩,⟨3,5,D1k⟩]
def C32:=mR A8g aE A15 n [a0] h
def C26:=mL aE A15 0 n [m] [x0,x3] h
def A7m:=mL aE A15 1 n [m,m2] [x0,x3,x4,x5,x6] h
def Z1:=mJ aE A15 2 n [m,m2] [x0,x3,x4,x5,x6] h
def B99:=aE.K Tryz.func184
def A8X:=aE.S
theorem C4H:SOk Tryz.prog 184 A8X:=B99.sok
theorem C2z:pE A8g A8X:=B99.out
end
end Go.Proofs.YtbnkgnfhgbhblaaGreat
namespace Go.Proofs.YtbnkgnfhgbhblaaGreat
open Go Go.Esc
theorem D1H {a b:List UInt8} {h:A6}:A9k [.c (.s a),.c (.s b)] h=some (bV (K9 a b),h) :=
 B9a (n:=0) (h2:=ro h) (by rw [C4p];simp only [esc]) rfl
theorem D0a (s t:List UInt8) (hs:s.length<9223372036854775807) (n:Nat) (h:A6):∀ d i m:Nat,i+d=s.length->d<m->i<=t.length ->
  B6R n m (.c (.s s)) (.c (.s t)) (iV i) h=some (bV (K9 (s.drop i) (t.drop i)),h)
 | d,i,0,_,hm,_=>by omega
 | 0,i,m+1,hi,hm,ht=>by
  have h1:¬ ((i:Int)<s.length):=by omega
  have h2:s.drop i=[]:=E5c (by omega);rw [A7k,h2];cases h4:t.drop i with
  | nil =>
   have:¬ (s.length:Int)<t.length:=by have:=congrArg List.length h4;simp at this;omega
   simp only [esc,h1,this,K9]
  | cons x r =>
   have:(s.length:Int)<t.length:=by have:=congrArg List.length h4;simp at this;omega
   simp only [esc,h1,this,K9]
 | d+1,i,m+1,hi,hm,ht=>by
  have h1:(i:Int)<s.length:=by omega
  have h2:i<s.length:=by omega
  rw [A7k,E46 h2];by_cases h3:i<t.length
  ·have h4:(i:Int)<t.length:=by omega
   have ih:=D0a s t hs n h d (i+1) m (by omega) (by omega) (by omega);rw [E46 h3];by_cases c:s[i]=t[i]
   ·simp only [esc,h1,h4,jI h2,jI h3,c,K9,UInt8.lt_irrefl,Bool.false_or,beq_self_eq_true,E5d,C6 (show i+1<9223372036854775808 by omega)];exact ih
   ·have c':¬ (s[i].toNat:Int)=t[i].toNat:=λe=>c (UInt8.toNat_inj.1 (by omega))
    have c2:(s[i]==t[i])=false:=by simp [c]
    have c3:((s[i].toNat:Int)<t[i].toNat)=(s[i]<t[i]):=by rw [UInt8.lt_iff_toNat_lt];simp
    simp only [esc,h1,h4,jI h2,jI h3,c',c2,K9,c3,E48,Bool.or_false]
  ·have h4:¬ (i:Int)<t.length:=by omega
   have h5:¬ (s.length:Int)<t.length:=by omega
   have h6:t.drop i=[]:=E5c (by omega);rw [h6];simp only [esc,h1,h4,h5,K9]
theorem B4Y {s t:List UInt8} (hs:s.length<9223372036854775807) (h:A6):A8U [.c (.s s),.c (.s t)] h=some (bV (K9 s t),h):=by
 refine B8z (n:=s.length+1) (h2:=ro h) ?_ rfl;rw [C30];have hl:=D0a s t hs (s.length+1) (ro h) s.length 0 (s.length+1) (by omega) (by omega) (by omega);simp only [E5k] at hl;exact hl
end Go.Proofs.YtbnkgnfhgbhblaaGreat
namespace Go.Proofs.YtbnkgnfhgbhblaaGreat
section
section
variable {α:Type} {lt:α -> α -> Prop}
theorem D3L (irr:∀ a,¬ lt a a) (tr:∀ a b c,lt a b->lt b c->lt a c):∀ {l m:List α},l.Pairwise lt->m.Pairwise lt->(∀ x,x∈l↔x∈m)->l=m
 | [],[],_,_,_=>rfl
 | [],y::m,_,_,h=>absurd ((h y).2 (E5n ..)) (by simp)
 | x::l,[],_,_,h=>absurd ((h x).1 (E5n ..)) (by simp)
 | x::l,y::m,hl,hm,h=>by
  rw [List.pairwise_cons] at hl hm;have e:x=y:=by
   rcases List.mem_cons.1 ((h x).1 (E5n ..)) with e | h1
   ·exact e
   ·rcases List.mem_cons.1 ((h y).2 (E5n ..)) with e | h2
    ·exact e.symm
    ·exact absurd (tr _ _ _ (hm.1 x h1) (hl.1 y h2)) (irr y)
  subst e;rw [D3L irr tr hl.2 hm.2 λz=>?_];constructor
  ·intro hz;rcases List.mem_cons.1 ((h z).1 (E5m _ hz)) with e | h1
   ·subst e;exact absurd (hl.1 z hz) (irr z)
   ·exact h1
  ·intro hz;rcases List.mem_cons.1 ((h z).2 (E5m _ hz)) with e | h1
   ·subst e;exact absurd (hm.1 z hz) (irr z)
   ·exact h1
theorem D3M (tr:∀ a b c,lt a b->lt b c->lt a c) (tot:∀ a b,lt a b\/a=b\/lt b a) {l:List α} {x:α} {p:Nat} (hl:l.Pairwise lt) (hx:x ∉ l) (h1:∀ y∈l.take p,lt y x) (h2:∀ y∈l.drop p,¬ lt y x) :
  (l.take p++x::l.drop p).Pairwise lt:=by
 have hl':=hl;rw [<-List.take_append_drop p l] at hl';rw [List.pairwise_append] at hl';obtain ⟨k1,k2,k3⟩:=hl';rw [List.pairwise_append];refine ⟨k1,?_,?_⟩
 ·rw [List.pairwise_cons];refine ⟨λy hy=>?_,k2⟩;rcases tot x y with h | h | h
  ·exact h
  ·subst h;exact absurd (List.mem_of_mem_drop hy) hx
  ·exact absurd h (h2 y hy)
 ·intro a ha b hb;rcases List.mem_cons.1 hb with e | hb
  ·subst e;exact h1 a ha
  ·exact k3 a ha b hb
theorem mem_insert {l:List α} {x y:α} {p:Nat}:y∈l.take p++x::l.drop p↔y=x\/y∈l:=by
 have e:y∈l↔y∈l.take p\/y∈l.drop p:=by rw [<-List.mem_append,List.take_append_drop]
 rw [List.mem_append,List.mem_cons,e];constructor
 ·rintro (h | h | h)
  ·exact .inr (.inl h)
  ·exact .inl h
  ·exact .inr (.inr h)
 ·rintro (h | h | h)
  ·exact .inr (.inl h)
  ·exact .inl h
  ·exact .inr (.inr h)
end
end
end Go.Proofs.YtbnkgnfhgbhblaaGreat
namespace Go.Proofs.YtbnkgnfhgbhblaaGreat
open Go Go.Esc
theorem oR:∀ a:List UInt8,K9 a a=false
 | []=>rfl
 | x::a=>by simp [K9,oR a,UInt8.lt_irrefl]
theorem jZ:∀ {a b c:List UInt8},K9 a b=true->K9 b c=true->K9 a c=true
 | [],[],_,h,_=>by simp [K9] at h
 | [],_::_,[],_,h=>by simp [K9] at h
 | [],_::_,_::_,_,_=>rfl
 | _::_,[],_,h,_=>by simp [K9] at h
 | _::_,_::_,[],_,h=>by simp [K9] at h
 | x::a,y::b,z::c,h1,h2=>by
  simp only [K9,E5V,E42,decide_eq_true_eq,beq_iff_eq] at h1 h2 ⊢;rcases h1 with h1 | ⟨rfl,h1⟩
  ·rcases h2 with h2 | ⟨rfl,h2⟩
   ·exact .inl (UInt8.lt_trans h1 h2)
   ·exact .inl h1
  ·rcases h2 with h2 | ⟨rfl,h2⟩
   ·exact .inl h2
   ·exact .inr ⟨rfl,jZ h1 h2⟩
theorem B9x:∀ a b:List UInt8,K9 a b=true\/a=b\/K9 b a=true
 | [],[]=>.inr (.inl rfl)
 | [],_::_=>.inl rfl
 | _::_,[]=>.inr (.inr rfl)
 | x::a,y::b=>by
  simp only [K9,E5V,E42,decide_eq_true_eq,beq_iff_eq,List.cons.injEq];rcases Nat.lt_trichotomy x.toNat y.toNat with h | h | h
  ·exact .inl (.inl (UInt8.lt_iff_toNat_lt.2 h))
  ·have e:=UInt8.toNat_inj.1 h;subst e;rcases B9x a b with h | h | h
   ·exact .inl (.inr ⟨rfl,h⟩)
   ·exact .inr (.inl ⟨rfl,h⟩)
   ·exact .inr (.inr (.inr ⟨rfl,h⟩))
  ·exact .inr (.inr (.inl (UInt8.lt_iff_toNat_lt.2 h)))
def plc (l:List (List UInt8)) (s:List UInt8):Nat->Nat->Nat->Nat
 | 0,lo,_=>lo
 | f+1,lo,hi=>if lo<hi then (if K9 (l.getD (lo+(hi-lo)/2) []) s then plc l s f (lo+(hi-lo)/2+1) hi else plc l s f lo (lo+(hi-lo)/2)) else lo
theorem D4V (l:List (List UInt8)) (s:List UInt8):∀ f lo hi,lo<=hi->plc l s f lo hi<=hi
 | 0,lo,hi,h=>h
 | f+1,lo,hi,h=>by
  unfold plc;split
  ·split
   ·exact D4V l s f _ hi (by omega)
   ·exact E5E (D4V l s f lo _ (by omega)) (by omega)
  ·exact h
theorem C68 {l:List (List UInt8)} {s:List UInt8} (hl:l.Pairwise λa b=>K9 a b=true):∀ f lo hi,lo<=hi->hi<=l.length->hi-lo<=f->(∀ i x,i<lo->l[i]?=some x->K9 x s=true)->(∀ i x,hi<=i->l[i]?=some x->K9 x s=false) ->
  (∀ i x,i<plc l s f lo hi->l[i]?=some x->K9 x s=true)/\(∀ i x,plc l s f lo hi<=i->l[i]?=some x->K9 x s=false)
 | 0,lo,hi,h,_,hf,h1,h2=>by
  have:hi=lo:=by omega
  subst this;exact ⟨h1,h2⟩
 | f+1,lo,hi,h,hh,hf,h1,h2=>by
  unfold plc;by_cases c:lo<hi
  ·rw [if_pos c];have hm:lo+(hi-lo)/2<hi:=by omega
   have hlo:lo<=lo+(hi-lo)/2:=by omega
   generalize lo+(hi-lo)/2=mid at *;have hg:l[mid]?=some (l.getD mid []):=by rw [E47,E40 (by omega)];rfl
   have mono:∀ (i j:Nat) (x y:List UInt8),i<j->l[i]?=some x->l[j]?=some y->K9 x y=true:=by
    intro i j x y hij hi hj;rw [List.pairwise_iff_getElem] at hl;obtain ⟨a,rfl⟩:=List.getElem?_eq_some_iff.1 hi;obtain ⟨b,rfl⟩:=List.getElem?_eq_some_iff.1 hj;exact hl i j a b hij
   cases cb:K9 (l.getD mid []) s with
   | true =>
    rw [if_pos rfl];refine C68 hl f (mid+1) hi (by omega) hh (by omega) (λi x hi hx=>?_) h2;by_cases e:i=mid
    ·subst e;rw [hg] at hx;rw [<-Option.some.inj hx];exact cb
    ·exact jZ (mono i mid x _ (by omega) hx hg) cb
   | false =>
    rw [if_neg (by simp)];refine C68 hl f lo mid (by omega) (by omega) (by omega) h1 (λi x hi hx=>?_);by_cases e:i=mid
    ·subst e;rw [hg] at hx;rw [<-Option.some.inj hx];exact cb
    ·cases cx:K9 x s with
     | false=>rfl
     | true=>rw [jZ (mono mid i _ x (by omega) hg hx) cx] at cb;exact cb
  ·rw [if_neg c];have:hi=lo:=by omega
   subst this;exact ⟨h1,h2⟩
def C3a (l:List (List UInt8)) (s:List UInt8) (n:Nat):Bool:=decide (l[n]?=some s)
theorem A4u (l:List (List UInt8)) (i:Nat):(encS l)[i]?=(l[i]?).map λx=>.s x:=by simp [encS]
theorem B4W {v:Val} {nv q:Nat} {l:List (List UInt8)} {s:List UInt8} {h:A6} (hv:Has h v 1 nv (encS l)) (hn:l.length=nv) (h62:nv<4611686018427387904):∀ f m lo hi:Nat,lo<=hi->hi<=nv->hi-lo<=f->f<m ->
  A3Q q m v (.c (.s s)) (iV lo) (iV hi) h=some (.t [.c (.i .i64 (plc l s f lo hi:Nat)),.c (.b (C3a l s (plc l s f lo hi)))],h)
 | f,0,lo,hi,_,_,_,hm=>by omega
 | f,m+1,lo,hi,h1,h2,hf,hm=>by
  have hlen:=hv.len;have fin:lo=hi->A3Q q (m+1) v (.c (.s s)) (iV lo) (iV hi) h=some (.t [.c (.i .i64 lo),.c (.b (C3a l s lo))],h):=by
   intro e;subst e;have c0:¬ (lo:Int)<lo:=by omega
   rw [A4T];unfold C3a;by_cases c1:lo<nv
   ·have c1':(lo:Int)<nv:=by omega
    obtain ⟨id,off,ev,hid,k1,k2⟩:=hv.sl (by omega);have hx:=k1 lo (.s l[lo]) (by rw [A4u,E40 (by omega)];rfl);have eb:D5 1 v (iV (lo:Int))=some (pV id (off+lo)):=by rw [ev,C4 (by omega)];simp
    have e2:l[lo]?=some l[lo]:=E40 (by omega);rw [e2];simp only [esc,hlen,c0,c1',eb,hx]
   ·have c1':¬ (lo:Int)<nv:=by omega
    have e2:l[lo]?=none:=E5C (by omega);rw [e2];simp only [esc,hlen,c0,c1',reduceCtorEq]
  cases f with
  | zero =>
   have e:lo=hi:=by omega
   exact fin e
  | succ f =>
   unfold plc;by_cases c:lo<hi
   ·rw [if_pos c];have c':(lo:Int)<hi:=by omega
    obtain ⟨id,off,ev,hid,k1,k2⟩:=hv.sl (by omega);have w1:IntKind.wrap .i64 ((hi:Int)-lo)=((hi-lo:Nat):Int):=by rw [wrap_i64 (by omega) (by omega)];omega
    have w2:=zQ (a:=((hi-lo:Nat):Int)) (b:=2) (by omega) (by omega) (by omega);have w3:((hi-lo:Nat):Int)/2=(((hi-lo)/2:Nat):Int):=by omega
    rw [w3] at w2;have w4:IntKind.wrap .i64 ((lo:Int)+(((hi-lo)/2:Nat):Int))=((lo+(hi-lo)/2:Nat):Int):=A1k (by omega);have hm1:lo+(hi-lo)/2<hi:=by omega
    have hm2:lo<=lo+(hi-lo)/2:=by omega
    generalize (hi-lo)/2=d at *;generalize lo+d=mid at *;have hx:=k1 mid (.s l[mid]) (by rw [A4u,E40 (by omega)];rfl);have eb:D5 1 v (iV (mid:Int))=some (pV id (off+mid)):=by rw [ev,C4 (by omega)];simp
    have eg:l.getD mid []=l[mid]:=by rw [E47,E40 (by omega)];rfl
    rw [eg];have hL:=λh=>D1H (a:=l[mid]) (b:=s) (h:=h)
    rw [A4T];cases cb:K9 l[mid] s with
    | true =>
     rw [cb] at hL;have ih:=B4W (q:=q) (s:=s) hv hn h62 f m (mid+1) hi (by omega) h2 (by omega) (by omega);rw [if_pos rfl];simp only [esc,hlen,c',w1,w2,w4,eb,hx,hL,C6 (show mid+1<9223372036854775808 by omega)];exact ih
    | false =>
     rw [cb] at hL;have ih:=B4W (q:=q) (s:=s) hv hn h62 f m lo mid hm2 (by omega) (by omega) (by omega);rw [if_neg (by simp)];simp only [esc,hlen,c',w1,w2,w4,eb,hx,hL];exact ih
   ·rw [if_neg c];exact fin (by omega)
theorem C8O {v:Val} {nv:Nat} {l:List (List UInt8)} {s:List UInt8} {h:A6} (hv:Has h v 1 nv (encS l)) (h62:nv<4611686018427387904) :
  yW [v,.c (.s s)] h=some (.t [.c (.i .i64 (plc l s nv 0 nv:Nat)),.c (.b (C3a l s (plc l s nv 0 nv)))],h):=by
 have hn:l.length=nv:=by simpa [L9] using hv.length
 have key:∀ N,nv<N->∀ g,Has g v 1 nv (encS l)->∃ g',A5x N [v,.c (.s s)] g=some (.t [.c (.i .i64 (plc l s nv 0 nv:Nat)),.c (.b (C3a l s (plc l s nv 0 nv)))],g'):=by
  intro N hN g hv;have e:=B4W (q:=N) (s:=s) hv hn h62 nv N 0 nv (by omega) (by omega) (by omega) hN;rw [C2k];exact ⟨_,by simp only [esc,hv.len];exact e⟩
 obtain ⟨g',e⟩:=key (nv+1) (by omega) (ro h) hv.ro;exact B6i e rfl
theorem D3Z {id n a:Nat} (ha:a<=n):D2C 1 (sV id 0 n 1) (some (iV (a:Int))) none=some (sV id a (n-a) 1):=by
 simp only [D2C,bound];rw [if_pos (by omega)];simp only [E49,E5j];rw [if_pos ⟨ha,E44 _,trivial⟩];simp
theorem D71 {H:A6} {id k p:Nat} {out:List (List UInt8)} (hr:rd H id=rT (encS (out++[[]]))) (hk:out.length=k) (hp:p<=k) :
  ∃ c,C5u H 1 (sV id (p+1) (k-p) 1) (sV id p (k+1-p) 1)=some (c,H.set id (rT (encS ((out++[[]]).take (p+1)++out.drop p)))):=by
 have hl:(encS (out++[[]])).length=k+1:=by rw [L9];simp [hk]
 have h1:((encS (out++[[]])).drop p).take (k+1-p)=(encS (out++[[]])).drop p:=E5b (by rw [List.length_drop];omega);have h2:O5 H 1 (sV id p (k+1-p) 1)=some ((encS (out++[[]])).drop p):=by
  simp only [O5,if_true,gF,hr,E49,Nat.mul_one,h1];rw [if_pos ⟨by omega,by simp⟩]
 have h3:((encS (out++[[]])).drop p).length=k+1-p:=by rw [List.length_drop];omega
 have h4:Nat.min (k+1-p) (k-p)=k-p:=Nat.min_eq_right (by omega);have h5:lay (encS (out++[[]])) (p+1) (((encS (out++[[]])).drop p).take (k-p))=encS ((out++[[]]).take (p+1)++out.drop p):=by
  unfold lay;have e1:((encS (out++[[]])).drop p).take (k-p)=encS (out.drop p):=by
   unfold encS;rw [E5T,List.drop_append_of_le_length (by simp;omega),List.take_append_of_le_length (by simp;omega),E5b (by simp;omega),List.map_drop]
  have e2:(encS (out++[[]])).drop (p+1+(encS (out.drop p)).length)=[]:=E5c (by rw [hl,L9,List.length_drop];omega);rw [e1,e2];simp only [E5t,encS,E5T,List.map_take,List.map_drop]
 refine ⟨iV ((k-p:Nat):Int),?_⟩;simp only [C5u,h2,E49,hr,h3,Nat.div_one,h4,Nat.mul_one,h5];rw [if_pos ⟨trivial,by omega,trivial⟩]
abbrev V0:=List (List UInt8)
def atS (o:V0) (s:List UInt8):Nat:=plc o s o.length 0 o.length
def A4P (o:V0) (s:List UInt8):V0:=bif C3a o s (atS o s) then o else o.take (atS o s)++s::o.drop (atS o s)
def fM (l:V0):V0:=l.foldl A4P []
theorem D7P (o:V0) (s:List UInt8):atS o s<=o.length:=D4V o s _ _ _ (Nat.zero_le _)
theorem C1E (o:V0) (s:List UInt8):(A4P o s).length<=o.length+1:=by
 have:=D7P o s;unfold A4P;cases C3a o s (atS o s)<;>simp<;>omega
theorem D1o (l:V0):∀ o:V0,(l.foldl A4P o).length<=o.length+l.length:=by
 induction l with
 | nil=>intro o;simp
 | cons x l ih =>
  intro o;have h1:=ih (A4P o x);have h2:=C1E o x;simp only [List.foldl_cons,E5a] at h1 ⊢;omega
theorem A6P (l:V0):(fM l).length<=l.length:=by
 have:=D1o l [];simpa [fM] using this
abbrev Up (l:V0):Prop:=l.Pairwise λa b=>K9 a b=true
theorem D2D {o:V0} {s:List UInt8} (ho:Up o):(∀ i x,i<atS o s->o[i]?=some x->K9 x s=true)/\(∀ i x,atS o s<=i->o[i]?=some x->K9 x s=false) :=
 C68 ho o.length 0 o.length (Nat.zero_le _) (E44 _) (by omega) (λi x hi=>by omega) (λi x hi hx=>by
  have:=(List.getElem?_eq_some_iff.1 hx).1;omega)
theorem D3k {o:V0} {s:List UInt8} (ho:Up o):C3a o s (atS o s)=true↔s∈o:=by
 unfold C3a;rw [decide_eq_true_eq];constructor
 ·intro h;exact E5s h
 ·intro h;obtain ⟨i,hi⟩:=List.mem_iff_getElem?.1 h;obtain ⟨h1,h2⟩:=D2D (s:=s) ho;have hge:atS o s<=i:=by
   false_or_by_contra
   have:=h1 i s (by omega) hi;rw [oR] at this;cases this
  by_cases e:atS o s=i
  ·rw [e];exact hi
  ·have P6:=(List.getElem?_eq_some_iff.1 hi).1;have hg:o[atS o s]?=some o[atS o s]:=E40 (by omega);have k1:=h2 _ _ (E44 _) hg;have k2:K9 o[atS o s] s=true:=by
    obtain ⟨a,ha⟩:=List.getElem?_eq_some_iff.1 hi;have:=List.pairwise_iff_getElem.1 ho (atS o s) i (by omega) a (by omega);rw [ha] at this;exact this
   rw [k1] at k2;cases k2
theorem E0h {o:V0} {s:List UInt8} (ho:Up o):Up (A4P o s)/\∀ x,x∈A4P o s↔x=s\/x∈o:=by
 unfold A4P;cases c:C3a o s (atS o s) with
 | true =>
  have hm:=(D3k ho).1 c;rw [cond_true];exact ⟨ho,λx=>⟨λh=>.inr h,λh=>by rcases h with h | h;subst h;exact hm;exact h⟩⟩
 | false =>
  have hm:s ∉ o:=λh=>by rw [(D3k ho).2 h] at c;cases c
  obtain ⟨h1,h2⟩:=D2D (s:=s) ho;rw [cond_false];refine ⟨D3M (lt:=λa b=>K9 a b=true) (λa b c=>jZ) (λa b=>B9x a b) ho hm (λy hy=>?_) (λy hy=>?_),λx=>mem_insert⟩
  ·obtain ⟨i,hi⟩:=List.mem_iff_getElem?.1 hy;have hl:=(List.getElem?_eq_some_iff.1 hi).1;rw [E5q] at hl;rw [E5B (by omega)] at hi;exact h1 i y (by omega) hi
  ·obtain ⟨i,hi⟩:=List.mem_iff_getElem?.1 hy;rw [E5R] at hi;have:=h2 _ y (by omega) hi;rw [this];simp
theorem D3c (l:V0):∀ o:V0,Up o->Up (l.foldl A4P o)/\∀ x,x∈l.foldl A4P o↔x∈o\/x∈l:=by
 induction l with
 | nil=>intro o ho;exact ⟨ho,λx=>by simp⟩
 | cons y l ih =>
  intro o ho;obtain ⟨h1,h2⟩:=E0h (s:=y) ho;obtain ⟨h3,h4⟩:=ih _ h1;refine ⟨h3,λx=>?_⟩;rw [List.foldl_cons,h4,h2,List.mem_cons];constructor
  ·rintro ((h | h) | h)
   ·exact .inr (.inl h)
   ·exact .inl h
   ·exact .inr (.inr h)
  ·rintro (h | h | h)
   ·exact .inl (.inr h)
   ·exact .inl (.inl h)
   ·exact .inr h
theorem D9z (l:V0):Up (fM l):=(D3c l [] List.Pairwise.nil).1
theorem B1v (l:V0) (x:List UInt8):x∈fM l↔x∈l:=by
 have:=(D3c l [] List.Pairwise.nil).2 x;simpa [fM] using this
theorem E2M {l m:V0} (hl:Up l) (hm:Up m) (h:∀ x,x∈l↔x∈m):l=m :=
 D3L (lt:=λa b=>K9 a b=true) (λa=>by rw [oR];simp) (λa b c=>jZ) hl hm h
theorem B9Y {v:Val} {nv q:Nat} {l:V0} {g:A6} (hv:Has g v 1 nv (encS l)) (hn:l.length=nv) (h62:nv<1073741824):∀ (e i m:Nat) (o:V0) (h:A6) (id:Nat),i+e=nv->e<m->o.length<=i->Low g.length g h->g.length<=id->rd h id=rT (encS o) ->
  ∃ v2 h2,B7m q m (sV id 0 o.length 1) v (iV nv) (iV i) h=some (v2,h2)/\Out g.length h2 v2 1 ((l.drop i).foldl A4P o).length (encS ((l.drop i).foldl A4P o))
 | e,i,0,o,h,id,_,hm,_,_,_,_=>by omega
 | 0,i,m+1,o,h,id,hi,hm,hol,hlow,hid,hr=>by
  have e0:i=nv:=by omega
  subst e0;have c0:¬ (i:Int)<i:=by omega
  rw [A7H,E5c (by omega),List.foldl_nil];exact ⟨_,_,by simp only [esc,c0]<;>rfl,by rw [L9];omega,_,rfl,hid,hr⟩
 | e+1,i,m+1,o,h,id,hi,hm,hol,hlow,hid,hr=>by
  have c0:(i:Int)<nv:=by omega
  obtain ⟨jd,off,ev,hjd,k1,k2⟩:=(hv.since hlow).sl (by omega);have hx:=k1 i (.s l[i]) (by rw [A4u,E40 (by omega)];rfl);have eb:D5 1 v (iV (i:Int))=some (pV jd (off+i)):=by rw [ev,C4 (by omega)];simp
  have hP:=C8O (s:=l[i]) (Has.row (sz:=1) (n:=o.length) hr (by rw [L9];omega) (B7n o)) (by omega);rw [E46 (by omega:i<l.length),List.foldl_cons];change yW _ h=some (.t [.c (.i .i64 (atS o l[i]:Nat)),.c (.b (C3a o l[i] (atS o l[i])))],h) at hP;have hat:=D7P o l[i];rw [A7H];generalize hs:l[i]=s at *;cases c:C3a o s (atS o s) with
  | true =>
   have ei:A4P o s=o:=by unfold A4P;rw [c,cond_true]
   rw [c] at hP;obtain ⟨v2,h2,f1,f2⟩:=B9Y (q:=q) hv hn h62 e (i+1) m o h id (by omega) (by omega) (by omega) hlow hid hr;rw [ei];refine ⟨v2,h2,?_,f2⟩;simp only [esc,c0,eb,hx,hP,A7G,C6 (show i+1<9223372036854775808 by omega)];exact f1
  | false =>
   have ei:A4P o s=o.take (atS o s)++s::o.drop (atS o s):=by unfold A4P;rw [c,cond_false]
   rw [c] at hP;have il:=C1E o s;generalize hp:atS o s=p at *;obtain ⟨h1,a1,a2,a3,a4,a5⟩:=push (ys:=[.s []]) (sz:=1) (n:=o.length) hlow hr (by rw [L9];omega) hid rfl (by omega) (by omega);have he:encS o++[.s []]=encS (o++[[]]):=by simp [encS]
   rw [he] at a2;have ef:D9 [Cell.s []] [(0,1,.c (.s []))]=some [.s []]:=rfl;have w1:IntKind.wrap .i64 ((p:Int)+1)=((p+1:Nat):Int):=C6 (by omega);have t1:=D3Z (id:=h.length+1) (n:=o.length+1) (a:=p+1) (by omega);have t2:=D3Z (id:=h.length+1) (n:=o.length+1) (a:=p) (by omega);rw [show o.length+1-(p+1)=o.length-p by omega] at t1;obtain ⟨cc,t3⟩:=D71 (H:=h1) (id:=h.length+1) (k:=o.length) (p:=p) a2 rfl hat;have t4:D5 1 (sV (h.length+1) 0 (o.length+1) 1) (iV (p:Int))=some (pV (h.length+1) p):=by rw [C4 (by omega)];simp
   have U8:=C5 a2;have t5:rd (h1.set (h.length+1) (rT (encS ((o++[[]]).take (p+1)++o.drop p)))) (h.length+1)=rT (encS ((o++[[]]).take (p+1)++o.drop p)):=B7 U8;have t6:=F5 (x:=.s s) (off:=p) t5 (by rw [L9,E43,E5q,E43];simp;omega);have t7:(encS ((o++[[]]).take (p+1)++o.drop p)).set p (.s s)=encS (A4P o s):=by
    rw [ei];have e1:(o++[[]]).take (p+1)=o.take p++[(o++[[]])[p]'(by simp;omega)]:=by
     rw [E5f (by simp;omega),List.take_append_of_le_length hat]
    rw [e1];unfold encS;rw [<-List.map_set]
    congr 1
    rw [E45,E5A _ _ (by simp;omega),E5q,E5U hat,E5K];rfl
   rw [List.set_set,t7] at t6;obtain ⟨v2,h2,f1,f2⟩:=B9Y (q:=q) hv hn h62 e (i+1) m (A4P o s) (h1.set (h.length+1) (rT (encS (A4P o s)))) (h.length+1) (by omega) (by omega) (by omega) (a3.set a4 _) a4 (B7 U8);have el:(A4P o s).length=o.length+1:=by rw [ei];simp;omega
   rw [el] at f1;refine ⟨v2,h2,?_,f2⟩;simp only [esc,c0,eb,hx,hP,ef,a1,w1,t1,t2,t3,t4,t6,A7G,C6 (show i+1<9223372036854775808 by omega)];exact f1
theorem D1I {v:Val} {nv:Nat} {l:V0} {h:A6} (hv:Has h v 1 nv (encS l)) (h62:nv<1073741824) :
  A9n [v] h=some (sV h.length 0 (fM l).length 1,h++[rT (encS (fM l))]):=by
 have hn:l.length=nv:=by simpa [L9] using hv.length
 have key:∀ N,nv<N->∀ g,Has g v 1 nv (encS l)->∃ v2 g',A8v N [v] g=some (v2,g')/\Out g.length g' v2 1 (fM l).length (encS (fM l)):=by
  intro N hN g hv;obtain ⟨v2,g',f1,f2⟩:=B9Y (q:=N) hv hn h62 nv 0 N [] ((g++[rT []])++[rT []]) (g.length+1) (by omega) hN (E44 _) (((Low.refl (E44 _)).new _).new _) (by omega) (by simp [encS]);rw [E5k] at f2;rw [C4r];refine ⟨v2,g',?_,f2⟩;rw [hv.len,Q5];simpa using f1
 obtain ⟨v2,g',e,ho⟩:=key (nv+1) (by omega) (ro h) hv.ro;exact C2Z e (by simpa [E7] using ho) (by simp)
def U2 (l:List Ent):List Cell:=(l.map λx=>V3 (some x)).flatten
theorem A6p {l:List Ent}:(U2 l).length=l.length*2:=by
 induction l with
 | nil=>rfl
 | cons x l ih=>simp only [U2,E50,List.flatten_cons,E43,V3,E5a,E5u] at ih ⊢;omega
theorem D8h {k:Nat} {x:Ent} {r:List Cell}:List.drop ((k+1)*2) (V3 (some x)++r)=List.drop (k*2) r:=by
 rw [show (k+1)*2=k*2+2 by omega];rfl
theorem B6O:∀ (l:List Ent) (k:Nat) (hk:k<l.length),((U2 l).drop (k*2)).take 2=V3 (some l[k])
 | [],k,hk=>by simp at hk
 | x::l,0,_=>rfl
 | x::l,k+1,hk=>by
  have e:U2 (x::l)=V3 (some x)++U2 l:=rfl;rw [e,D8h,List.getElem_cons_succ];exact B6O l k (by simpa using hk)
def eW (l:List Ent) (k:Nat):Ent:=l.getD k ([],0)
theorem B6N {l:List Ent} {k:Nat} (hk:k<l.length):eW l k=l[k]:=by simp [eW,List.getD,hk]
def iQ (l:List Ent):Nat->List UInt8
 | 0=>hdB
 | k+1=>I6 (iQ l k) (J2 k) (X3 (eW l k).1 (eW l k).2)
theorem fL {l:List Ent}:∀ k,k<=7->(iQ l k).length=256
 | 0,_=>A6y
 | k+1,hk=>by rw [iQ,O1 (by rw [fL k (by omega),X4];unfold J2;omega)];exact fL k (by omega)
def atX (b nm:List UInt8):Nat:=match V8 b nm with
 | some x=>x.1
 | none=>0
theorem E2E {o:Option Slt}:(slC o)[0]?=some (.i .i64 ((match o with | some x=>x.1 | none=>0:Nat):Int)):=by cases o<;>rfl
def D0g (l:List Ent) (k:Nat):Bool:=decide (atX (iQ l l.length) (eW l k).1=k)
def B7v (l:List Ent):Bool:=(E5D 0 l.length).all (D0g l)
def C8N (l:List Ent):Bool:=l.all λx=>A1o x.1 x.2
theorem D8R {v:Val} {nv q:Nat} {l:List Ent} {B:A6} {g:Nat} (hv:Has B v 2 nv (U2 l)) (hn:l.length=nv) (h7:nv<=7) (hg:rd B g=rT (A5 (zeros 256))):∀ (e k m:Nat) (h:A6),k+e=nv->e<m->Low B.length B h->rd h B.length=rT (A5 (iQ l nv)) ->
  ∃ h',B2v q m (.c (.p g 0)) (.c (.p B.length 0)) v (.c (.i .i64 (nv:Int))) (.c (.i .i64 (k:Int))) h=some (.t [.a (A5 (bif (E5D k e).all (D0g l) then iQ l nv else zeros 256)),.c (.i .i64 (bif (E5D k e).all (D0g l) then 0 else 5))],h')
 | e,k,0,h,_,hm,_,_=>by omega
 | 0,k,m+1,h,hk,hm,hlow,hr=>by
  have e0:k=nv:=by omega
  subst e0;have c0:¬ (k:Int)<k:=by omega
  have hL:(A5 (iQ l k)).length=256:=by rw [A4];exact fL k h7
  have hz:(A5 (zeros 256)).length=256:=by rw [A4];exact zeros_length
  have hrg:=hlow.rd hg;have s1:=B8 hr hL;have s2:=storeAll (xs:=A5 (iQ l k)) hrg hz hL;have s3:=B8 (h:=h.set g (rT (A5 (iQ l k)))) (id:=g) (B7 (C5 hrg)) hL;rw [A4l,List.range'_zero,List.all_nil,cond_true,cond_true];generalize A5 (iQ l k)=y at *;exact ⟨_,by simp only [esc,c0,s1,s2,s3]<;>rfl⟩
 | e+1,k,m+1,h,hk,hm,hlow,hr=>by
  have c0:(k:Int)<nv:=by omega
  have hL:(A5 (iQ l nv)).length=256:=by rw [A4];exact fL nv h7
  have hvB:Has h v 2 nv (U2 l):=by
   refine hv.low hlow λid off m he=>?_
   rcases hv with ⟨rfl,_⟩ | ⟨gG,off',r',rfl,hrd,_⟩
   ·cases he
   ·cases he;exact C5 hrd
  obtain ⟨id,off,ev,hid,k1,k2⟩:=hvB.sl (by omega);have eb:D5 2 v (.c (.i .i64 (k:Int)))=some (.c (.p id (off+k*2))):=by rw [ev,C4 (by omega)]
  have hld:=k2 (k*2) 2 (by rw [A6p];omega);rw [B6O l k (by omega),<-B6N (by omega)] at hld;have w1:=C6 (show k+1<9223372036854775808 by omega);have hF:=λh=>A9L (b:=iQ l nv) (nm:=(eW l k).1) (h:=h) (fL nv h7)
  have s1:=λt=>B8 (h:=h++t) (B6 hr) hL
  have hat:(slC (V8 (iQ l nv) (eW l k).1))[0]?=some (.i .i64 (atX (iQ l nv) (eW l k).1:Nat)):=E2E;have hSl:=kW (o:=V8 (iQ l nv) (eW l k).1);rw [A4l,List.range'_succ,E5J];have hon:D0g l k=decide (atX (iQ l nv) (eW l k).1=k):=by unfold D0g;rw [hn]
  rw [hon];generalize slC (V8 (iQ l nv) (eW l k).1)=S at *;generalize atX (iQ l nv) (eW l k).1=A at *;obtain ⟨h',ih⟩:=D8R (q:=q) hv hn h7 hg e (k+1) m (h++[rT (V3 (some (eW l k))),rT S]) (by omega) (by omega) (hlow.new _) (B6 hr);simp only [V3] at *;by_cases c:A=k
  ·subst c;rw [decide_eq_true rfl,E5d];refine ⟨h',?_⟩;generalize A5 (iQ l nv)=y at *;simp only [esc,esh,Nat.reduceAdd,Nat.reduceMul,Nat.reduceLT,c0,eb,hld,s1,hF,hat,hSl,w1];exact ih
  ·rw [decide_eq_false c,E48,cond_false,cond_false];have c':¬ (A:Int)=k:=by omega
   have hz:(A5 (zeros 256)).length=256:=by rw [A4];exact zeros_length
   have hrg:=λt:A6=>B6 (g:=t) (hlow.rd hg)
   have haf:D9 (E41 256 (Cell.i .u8 0)) []=some (E41 256 (Cell.i .u8 0)):=rfl;rw [I5] at haf;have s2:=λt=>storeAll (xs:=A5 (zeros 256)) (hrg t) hz hz
   have s3:=λt=>B8 (h:=(h++t).set g (rT (A5 (zeros 256)))) (id:=g) (B7 (C5 (hrg t))) hz
   rw [I5];generalize zeros 256=z at *;generalize A5 (iQ l nv)=y at *;exact ⟨_,by simp only [esc,esh,Nat.reduceAdd,Nat.reduceMul,Nat.reduceLT,c0,eb,hld,s1,hF,hat,hSl,c',haf,s2,s3]<;>rfl⟩
theorem D8Q {v:Val} {nv q:Nat} {l:List Ent} {B:A6} {g:Nat} (hv:Has B v 2 nv (U2 l)) (hn:l.length=nv) (h7:nv<=7) (hs:∀ x∈l,x.1.length<=60) (hg:rd B g=rT (A5 (zeros 256))) (hq:nv<q):∀ (e k m:Nat) (h:A6),k+e=nv->e<m->Low B.length B h->rd h B.length=rT (A5 (iQ l k)) ->
  ∃ h',B2u q m v (.c (.p g 0)) (.c (.p B.length 0)) v (.c (.i .i64 (nv:Int))) (.c (.i .i64 (k:Int))) h=some (.t [.a (A5 (bif C8N (l.drop k)&&B7v l then iQ l nv else zeros 256)),.c (.i .i64 (bif C8N (l.drop k) then (bif B7v l then 0 else 5) else 1))],h')
 | e,k,0,h,_,hm,_,_=>by omega
 | 0,k,m+1,h,hk,hm,hlow,hr=>by
  have e0:k=nv:=by omega
  subst e0;have c0:¬ (k:Int)<k:=by omega
  have hvB:Has h v 2 k (U2 l):=by
   refine hv.low hlow λid off m he=>?_
   rcases hv with ⟨rfl,_⟩ | ⟨gG,off',r',rfl,hrd,_⟩
   ·cases he
   ·cases he;exact C5 hrd
  obtain ⟨h',e⟩:=D8R (q:=q) hv hn h7 hg k 0 q h (by omega) hq hlow hr;have em:C8N (l.drop k)=true:=by rw [E5c (by omega)];rfl
  have eo:(E5D 0 k).all (D0g l)=B7v l:=by unfold B7v;rw [hn]
  rw [eo] at e;rw [A4k,em,E5d,cond_true];exact ⟨h',by simp only [esc,c0,hvB.len];exact e⟩
 | e+1,k,m+1,h,hk,hm,hlow,hr=>by
  have c0:(k:Int)<nv:=by omega
  have hNl:=fL (l:=l) k (by omega);have hL:(A5 (iQ l k)).length=256:=by rw [A4];exact hNl
  have hvB:Has h v 2 nv (U2 l):=by
   refine hv.low hlow λid off m he=>?_
   rcases hv with ⟨rfl,_⟩ | ⟨gG,off',r',rfl,hrd,_⟩
   ·cases he
   ·cases he;exact C5 hrd
  obtain ⟨id,off,ev,hid,k1,k2⟩:=hvB.sl (by omega);have eb:D5 2 v (.c (.i .i64 (k:Int)))=some (.c (.p id (off+k*2))):=by rw [ev,C4 (by omega)]
  have hld:=k2 (k*2) 2 (by rw [A6p];omega);rw [B6O l k (by omega),<-B6N (by omega)] at hld;have w1:=C6 (show k+1<9223372036854775808 by omega);have hsk:(eW l k).1.length<=60:=by rw [B6N (by omega)];exact hs _ (E5F _)
  have hM:=λh=>A3x (s:=(eW l k).1) (n:=(eW l k).2) (h:=h) (by omega)
  have hW:=λh=>qO (s:=(eW l k).1) (n:=(eW l k).2) (h:=h) (by omega)
  have hF:=λh=>nS (k:=k) (h:=h) (by omega)
  have hmd:C8N (l.drop k)=(A1o (eW l k).1 (eW l k).2&&C8N (l.drop (k+1))):=by
   rw [E46 (by omega:k<l.length),B6N (by omega)];rfl
  have hEl:(X3 (eW l k).1 (eW l k).2).length=32:=X4;have hLy:=B4U (v:=.c (.sl (h.length+1) 0 32 1)) (nv:=32) (data:=X3 (eW l k).1 (eW l k).2) (l:=iQ l k) (h:=h++[rT (V3 (some (eW l k))),rT (A5 (X3 (eW l k).1 (eW l k).2))]) (Has.row (rw:=true) (by simp) (by rw [A4,X4]) (F0 _)) hNl (by rw [hEl];omega) (a:=(J2 k:Nat));have elay:A7Z (iQ l k) (J2 k:Nat) (X3 (eW l k).1 (eW l k).2)=iQ l (k+1):=by
   unfold A7Z;have:J2 k<256:=by unfold J2;omega
   rw [if_pos ⟨by omega,by omega⟩,E5j,E5b (by rw [hEl];unfold J2;omega)];rfl
  rw [elay] at hLy;have hq2:quiet (h++[rT (V3 (some (eW l k)))]) (some (.c (.sl (h.length+1) 0 32 1),h++[rT (V3 (some (eW l k))),rT (A5 (X3 (eW l k).1 (eW l k).2))]))=_:=E2v;have hrk:∀ t:A6,rd (h++t) B.length=rT (A5 (iQ l k)):=λt=>B6 hr
  have s1:=λt=>B8 (h:=h++t) (hrk t) hL
  have hN1:(A5 (iQ l (k+1))).length=256:=by rw [A4];exact fL (k+1) (by omega)
  have s2:=λt=>storeAll (h:=h++t) (xs:=A5 (iQ l (k+1))) (hrk t) hL hN1
  obtain ⟨h',ih⟩:=D8Q (q:=q) hv hn h7 hs hg hq e (k+1) m ((h++[rT (V3 (some (eW l k))),rT (A5 (X3 (eW l k).1 (eW l k).2))]).set B.length (rT (A5 (iQ l (k+1))))) (by omega) (by omega) ((hlow.new _).set (E44 _) _) (B7 (C5 (hrk _)));rw [A4k,hmd];generalize X3 (eW l k).1 (eW l k).2=E at *;simp only [V3] at *;cases cm:A1o (eW l k).1 (eW l k).2 with
  | true =>
   rw [cm] at hM;rw [E5d];refine ⟨h',?_⟩;generalize A5 (iQ l (k+1))=y1 at *;generalize A5 (iQ l k)=y at *;simp only [esc,esh,Nat.reduceAdd,Nat.reduceMul,Nat.reduceLT,c0,eb,hld,hM,hF,hW,hq2,s1,hLy,s2,w1];exact ih
  | false =>
   rw [cm] at hM;rw [E48,E48,cond_false,cond_false];have hz:(A5 (zeros 256)).length=256:=by rw [A4];exact zeros_length
   have hrg:=λt:A6=>B6 (g:=t) (hlow.rd hg)
   have haf:D9 (E41 256 (Cell.i .u8 0)) []=some (E41 256 (Cell.i .u8 0)):=rfl;rw [I5] at haf;have s2:=λt=>storeAll (xs:=A5 (zeros 256)) (hrg t) hz hz
   have s3:=λt=>B8 (h:=(h++t).set g (rT (A5 (zeros 256)))) (id:=g) (B7 (C5 (hrg t))) hz
   rw [I5];generalize zeros 256=z at *;exact ⟨_,by simp only [esc,esh,Nat.reduceAdd,Nat.reduceMul,Nat.reduceLT,c0,eb,hld,hM,haf,s2,s3]<;>rfl⟩
def D3s (l:List Ent):Int:=if 7<l.length then 11 else if C8N l=true then (if B7v l=true then 0 else 5) else 1
def aU (l:List Ent):List UInt8:=if D3s l=0 then iQ l l.length else zeros 256
theorem oY {l:List Ent}:(aU l).length=256:=by
 unfold aU;split
 ·rename_i h;refine fL _ ?_
  false_or_by_contra
  unfold D3s at h;rw [if_pos (by omega)] at h;omega
 ·exact zeros_length
theorem C8q {v:Val} {nv:Nat} {l:List Ent} {h:A6} (hv:Has h v 2 nv (U2 l)) (hs:∀ x∈l,x.1.length<=60):A5A [v] h=some (.t [.a (A5 (aU l)),.c (.i .i64 (D3s l))],h):=by
 have hn:l.length=nv:=by have:=hv.length;rw [A6p] at this;omega
 have key:∀ g,Has g v 2 nv (U2 l)->∃ g',A5g 8 [v] g=some (.t [.a (A5 (aU l)),.c (.i .i64 (D3s l))],g'):=by
  intro g hv;have hz:(A5 (zeros 256)).length=256:=by rw [A4];exact zeros_length
  have hd:(A5 hdB).length=256:=by rw [A4];exact A6y
  have hl:=hv.len;have hH:=λh=>C5I (h:=h)
  rw [C1U,I5];by_cases c:7<nv
  ·have c0:(7:Int)<nv:=by omega
   have e1:D3s l=11:=by unfold D3s;rw [if_pos (by omega)]
   have e2:aU l=zeros 256:=by unfold aU;rw [e1,if_neg (by omega)]
   have haf:D9 (E41 256 (Cell.i .u8 0)) []=some (E41 256 (Cell.i .u8 0)):=rfl;rw [I5] at haf;rw [e1,e2];generalize zeros 256=z at *;exact ⟨_,by simp only [esc,esh,Nat.reduceAdd,Nat.reduceMul,Nat.reduceLT,hl,c0,haf,hz]<;>rfl⟩
  ·have c0:¬ (7:Int)<nv:=by omega
   obtain ⟨h',e⟩:=D8Q (q:=8) (B:=g++[rT (A5 (zeros 256))]) (g:=g.length) (hv.more _) hn (by omega) hs (by simp) (by omega) nv 0 8 (g++[rT (A5 (zeros 256)),rT (A5 (iQ l 0))]) (by omega) (by omega)
    (by have:=(Low.refl (h:=g++[rT (A5 (zeros 256))]) (E44 _)).new [rT (A5 (iQ l 0))];simpa using this) (by simp)
   have e1:D3s l=(bif C8N l then (bif B7v l then 0 else 5) else 1):=by
    unfold D3s;rw [if_neg (by omega)];cases C8N l<;>cases B7v l<;>simp
   have e2:aU l=(bif C8N l&&B7v l then iQ l nv else zeros 256):=by
    unfold aU;rw [e1,<-hn];cases C8N l<;>cases B7v l<;>simp
   rw [E5k,<-e1,<-e2] at e;rw [show iQ l 0=hdB from rfl] at e;simp only [E43,E5a,E5u,E5l] at e;refine ⟨h',?_⟩;generalize aU l=R at *;generalize hdB=H at *;generalize zeros 256=z at *;simp only [esc,esh,Nat.reduceAdd,Nat.reduceMul,Nat.reduceLT,hl,c0,hH,hz,hd];exact e
 obtain ⟨g',e⟩:=key (ro h) hv.ro;exact B5U e (by simp)
def MapN (es:W0) (f:List UInt8->Int) (l:V0):Prop:=(∀ e∈es,∃ s,e.1=.s s)/\∀ s∈l,∃ i,B0E (.s s) es=some (i,.c (.i .i64 (f s)))
theorem D5M {es:W0} {s:List UInt8} (h:∀ e∈es,∃ s,e.1=Cell.s s):A3N none (.s s) es=true:=by
 simp only [A3N,sK,E5d,E5S];intro e he;obtain ⟨x,hx⟩:=h e he;rw [hx]
theorem D5S {k:Cell} {p:Part}:∀ {es:W0} {i j:Nat} {q:Part},mgo k es i=some (j,q)->(es.set (j-i) (k,p)).length=es.length/\mgo k (es.set (j-i) (k,p)) i=some (j,p)/\i<=j/\∀ k'≠k,((mgo k' (es.set (j-i) (k,p)) i)=mgo k' es i)
 | [],i,j,q,h=>by simp [mgo] at h
 | e::es,i,j,q,h=>by
  unfold mgo at h;by_cases c:e.1=k
  ·rw [if_pos c] at h;cases h;simp only [E5K,E5L];refine ⟨rfl,by simp [mgo],E44 _,λk' hk'=>?_⟩;have:¬ e.1=k':=λh=>hk' (by rw [<-h,c])
   simp [mgo,this,Ne.symm hk']
  ·rw [if_neg c] at h;obtain ⟨h1,h2,h3,h4⟩:=D5S (p:=p) h;have e1:j-i=(j-(i+1))+1:=by omega
   rw [e1,E5M];refine ⟨by simp,?_,by omega,λk' hk'=>?_⟩
   ·simp only [mgo];rw [if_neg c];exact h2
   ·simp only [mgo];rw [h4 k' hk']
theorem D3p {k k':Cell} {p:Part}:∀ {es:W0} {i:Nat},mgo k es i=none->mgo k' (es++[(k,p)]) i=if k'=k then some (i+es.length,p) else mgo k' es i
 | [],i,_=>by
  by_cases c:k'=k
  ·subst c;simp [mgo]
  ·simp [mgo,c,Ne.symm c]
 | e::es,i,h=>by
  unfold mgo at h;by_cases c:e.1=k
  ·rw [if_pos c] at h;cases h
  ·rw [if_neg c] at h;have ih:=D3p (k':=k') (p:=p) h;simp only [E5x,mgo,ih];by_cases c2:k'=k
   ·subst c2;rw [if_neg c,if_pos rfl,if_pos rfl,E5a]
    congr 2;omega
   ·simp only [if_neg c2]
theorem A0h {k k':Cell} {p:Part} {es:W0}:B0E k (A71 k p es)=some (((B0E k es).map (·.1)).getD es.length,p)/\(k'≠k->B0E k' (A71 k p es)=B0E k' es):=by
 unfold A71 B0E;cases c:mgo k es 0 with
 | none =>
  simp only [D3p c];exact ⟨by simp,λh=>by rw [if_neg h]⟩
 | some jq =>
  obtain ⟨j,q⟩:=jq;obtain ⟨_,h2,_,h4⟩:=D5S (p:=p) c;simp only [Nat.sub_zero] at h2 h4;exact ⟨by simp [h2],λh=>h4 k' h⟩
theorem B9Q {k:Cell} {p:Part} {es:W0} {Q:Cell->Prop} (hk:Q k) (h:∀ e∈es,Q e.1):∀ e∈A71 k p es,Q e.1:=by
 intro e he;unfold A71 at he;split at he
 ·rcases E5H he with he | rfl
  ·exact h e he
  ·exact hk
 ·rcases List.mem_append.1 he with he | he
  ·exact h e he
  ·simp at he;subst he;exact hk
theorem MapN.nil (f:List UInt8->Int):MapN [] f []:=⟨λe he=>by simp at he,λs hs=>by simp at hs⟩
theorem MapN.put {es:W0} {f:List UInt8->Int} {l:V0} (hm:MapN es f l) (s:List UInt8):MapN (A71 (.s s) (.c (.i .i64 (f s))) es) f (l++[s]):=by
 refine ⟨B9Q (Q:=λc=>∃ s,c=.s s) ⟨s,rfl⟩ hm.1,λx hx=>?_⟩;by_cases c:x=s
 ·subst c;exact ⟨_,(A0h (k':=.mh)).1⟩
 ·rcases List.mem_append.1 hx with hx | hx
  ·obtain ⟨i,hi⟩:=hm.2 x hx;refine ⟨i,?_⟩;rw [(A0h (k:=.s s) (k':=.s x)).2 (by simpa using c)];exact hi
  ·simp at hx;exact absurd hx c
theorem D8J {h:A6} {mid:Nat} {es:W0} {f:List UInt8->Int} {l:V0} {s:List UInt8} (hr:rd h mid=some (S4 es)) (hm:MapN es f l) (hs:s∈l):A7f h none (.c o0) false (.c (.m mid)) (.c (.s s))=some (.c (.i .i64 (f s))):=by
 obtain ⟨i,hi⟩:=hm.2 s hs;simp only [A7f,C6F,D6U,hr,E49,A0g];rw [if_pos (D5M hm.1),hi];rfl
theorem E0w {h:A6} {mid:Nat} {es:W0} {f:List UInt8->Int} {l:V0} {s:List UInt8} {x:Int} (hr:rd h mid=some (S4 es)) (hm:MapN es f l):A17 h none (.c (.m mid)) (.c (.s s)) (.c (.i .i64 x))=some (h.set mid (some (S4 (A71 (.s s) (.c (.i .i64 x)) es)))):=by
 simp only [A17,C6F,C7a,hr,E49,A0g];rw [if_pos (D5M hm.1)]
section
theorem A0k {b:List UInt8} {k:Nat} {x:Ent} (h:R0 b k=some x):x.1.length<=24:=by
 unfold R0 at h;cases hu:cY (nameB b k) with
 | none=>rw [hu] at h;cases h
 | some s =>
  rw [hu,E49] at h;split at h
  ·cases h;exact (bY (A6S hu)).2
  ·cases h
theorem A6F {b:List UInt8}:∀ {e k:Nat} {x:Slt},x∈M6 b e k->R0 b x.1=some x.2/\k<=x.1/\x.1<k+e
 | 0,k,x,h=>by simp [M6] at h
 | e+1,k,x,h=>by
  cases hr:R0 b k with
  | none =>
   rw [vI hr] at h;have:=A6F h;exact ⟨this.1,by omega,by omega⟩
  | some y =>
   rw [vJ hr] at h;rcases List.mem_cons.1 h with rfl | h
   ·exact ⟨hr,E44 _,by dsimp only;omega⟩
   ·have:=A6F h;exact ⟨this.1,by omega,by omega⟩
theorem B1n {b:List UInt8} {x:Slt} (h:x∈N1 b):R0 b x.1=some x.2/\x.1<7:=by
 have:=A6F h;exact ⟨this.1,by omega⟩
section
variable {D:Dev} {n k:Int} {d:List Int} {V I:List Cell} {L:List Int} {g h:A6} {rs:List Nat} {c:Nat} {s:List Tld}
end
end
theorem D2s {n:Nat} {t:List Int} {p b:Nat}:C22 n t p b=true↔toX t p≠0/\∀ k,k<n->k%2 ^ b=p%2 ^ b->toX t k=toX t p:=by
 unfold C22 A6T V5;simp only [E42,E5O,decide_eq_false_iff_not,E5S,List.mem_filter,List.mem_range,beq_iff_eq,decide_eq_true_eq];constructor
 ·rintro ⟨h1,h2⟩;exact ⟨h1,λk hk hm=>h2 k ⟨hk,hm⟩⟩
 ·rintro ⟨h1,h2⟩;exact ⟨h1,λk hk=>h2 k hk.1 hk.2⟩
theorem vC {n:Nat} {t:List Int} {p:Nat}:∀ e b,b<=aW n t p b e/\aW n t p b e<=b+e/\(∀ c,b<=c->c<aW n t p b e->C22 n t p c=false)/\(aW n t p b e<b+e->C22 n t p (aW n t p b e)=true)
 | 0,b=>⟨E44 _,E44 _,λc h1 h2=>by unfold aW at h2;omega,λh=>by unfold aW at h;omega⟩
 | e+1,b=>by
  unfold aW;cases ca:C22 n t p b with
  | true=>exact ⟨E44 _,by rw [cond_true];omega,λc h1 h2=>by rw [cond_true] at h2;omega,λ_=>by rw [cond_true];exact ca⟩
  | false =>
   obtain ⟨h1,h2,h3,h4⟩:=vC (n:=n) (t:=t) (p:=p) e (b+1);rw [cond_false];refine ⟨by omega,by omega,λc k1 k2=>?_,λk=>h4 (by omega)⟩;by_cases e1:c=b
   ·subst e1;exact ca
   ·exact h3 c (by omega) k2
theorem C5D {d:Int} {t:List Int} {p:Nat}:bJ d t p<=V1 d:=by
 have:=(vC (n:=B9 d) (t:=t) (p:=p) (V1 d) 0).2.1;unfold bJ;omega
theorem D2H {d:Int} {t:List Int} {p c:Nat} (h:c<bJ d t p):C22 (B9 d) t p c=false:=(vC (n:=B9 d) (t:=t) (p:=p) (V1 d) 0).2.2.1 c (Nat.zero_le _) h
theorem D6p {d:Int} {t:List Int} {p:Nat} (h:bJ d t p<V1 d):C22 (B9 d) t p (bJ d t p)=true:=(vC (n:=B9 d) (t:=t) (p:=p) (V1 d) 0).2.2.2 (by unfold bJ at h;omega)
theorem C5Y {d:Int} {t:List Int} {p k:Nat} (hp:p<B9 d) (hk:k<B9 d) (hm:k%2 ^ bJ d t p=p%2 ^ bJ d t p):toX t k=toX t p:=by
 by_cases c:bJ d t p<V1 d
 ·exact (D2s.1 (D6p c)).2 k hk hm
 ·have e:bJ d t p=V1 d:=by have:=C5D (d:=d) (t:=t) (p:=p);omega
  rw [e] at hm;unfold B9 at hp hk;rw [E5P hp,E5P hk] at hm;rw [hm]
theorem D4J {a b c x:Nat} (h:c<=x) (hm:a%2 ^ x=b%2 ^ x):a%2 ^ c=b%2 ^ c:=by
 have hd:2 ^ c ∣ 2 ^ x:=Nat.pow_dvd_pow 2 h;rw [<-Nat.mod_mod_of_dvd a hd,<-Nat.mod_mod_of_dvd b hd,hm]
theorem D5G {α:Type} {p r:α -> Bool}:∀ {l:List α},(∀ x∈l,p x=true->r x=true)->(l.filter p).length<=(l.filter r).length
 | [],_=>by simp
 | y::l,h=>by
  have h1:=D5G (l:=l) λx hx=>h x (E5m _ hx)
  have h2:=h y (E5n ..);simp only [List.filter_cons];cases hy:p y with
  | true=>rw [h2 hy];simpa using h1
  | false=>cases r y<;>simp<;>omega
theorem D5F {α:Type} {p r:α -> Bool}:∀ {l:List α},(∀ x∈l,p x=true->r x=true)->(l.filter p).length=(l.filter r).length->∀ x∈l,r x=p x
 | [],_,_,x,hx=>by cases hx
 | y::l,h,he,x,hx=>by
  have h':∀ x∈l,p x=true->r x=true:=λx hx=>h x (E5m _ hx)
  have h1:=D5G h';have h2:=h y (E5n ..);simp only [List.filter_cons] at he;have key:r y=p y/\(l.filter p).length=(l.filter r).length:=by
   cases hy:p y with
   | true =>
    rw [h2 hy];rw [hy,h2 hy] at he;exact ⟨rfl,by simpa using he⟩
   | false =>
    rw [hy] at he;cases hr:r y with
    | true=>rw [hr] at he;simp at he;omega
    | false=>rw [hr] at he;exact ⟨rfl,by simpa using he⟩
  rcases List.mem_cons.1 hx with e | hx
  ·subst e;exact key.1
  ·exact D5F h' key.2 x hx
theorem D0C {d:Int} {t:List Int} {p:Nat} (hp:p<B9 d):A2A d t p=true↔∀ k,k<B9 d->toX t k=toX t p->k%2 ^ bJ d t p=p%2 ^ bJ d t p:=by
 unfold A2A;rw [decide_eq_true_eq];unfold V5 qR;constructor
 ·intro he k hk hs;have:=D5F (p:=λk=>k%2 ^ bJ d t p==p%2 ^ bJ d t p) (r:=λk=>decide (toX t k=toX t p)) (l:=E5v (B9 d)) (λx hx h=>by
   rw [decide_eq_true_eq];exact C5Y hp (List.mem_range.1 hx) (by simpa using h)) he k (List.mem_range.2 hk)
  rw [decide_eq_true hs] at this;simpa using this.symm
 ·intro h
  congr 1
  refine List.filter_congr λk hk=>?_
  have hk:=List.mem_range.1 hk;rw [Bool.eq_iff_iff,decide_eq_true_eq,beq_iff_eq];exact ⟨λhm=>C5Y hp hk hm,λhs=>h k hk hs⟩
theorem B4J {t:List Int} {i:Nat}:nA t i=true↔∀ k,k<i->toX t k≠toX t i:=by
 unfold nA;simp only [E5S,List.mem_range,E5O,decide_eq_false_iff_not]
theorem D6N {d:Int} {t:List Int} {i:Nat}:A2r d t i=true↔toX t i≠0/\uA (toX t i)=true/\(nA t i=true\/A2A d t i=true):=by
 unfold A2r;simp only [E42,E5O,decide_eq_false_iff_not,E5V]
end Go.Proofs.YtbnkgnfhgbhblaaGreat
namespace Go.Proofs.YtbnkgnfhgbhblaaGreat
open Go Go.Esc
set_option maxRecDepth 100000
noncomputable section
variable (n m m2:Nat) (a0 a1 x0 x1 x5:Val) (h:A6)
def zU:FD Tryz.prog:=⟨px 0X134114125c515607c2e1a13180174114122461a27c4061c61a11984a001c16295104215510330702461e17c61c80060419510425103351030605101510320334111022,[.c (.b false),.c (.b true)],[],[.tmp 4],[]⟩
def C9l:=zU.R
def C6a:AtH:=zU.lj 0 n [m] [x0,x1,x5]
def C9s:=tT [⟨2,3,C6a⟩]
def D0H:=mR C9l zU C9s n [a0,a1] h
def B2H:=mL zU C9s 0 n [m] [x0,x1,x5] h
def C86:=zU.K Tryz.func19
def B8D:=zU.S
theorem B54:SOk Tryz.prog 19 B8D:=C86.sok
theorem C4K:E5 C9l B8D:=C86.flat
end
noncomputable section
variable (n m m2:Nat) (a0 a1 a2 x0 x1 x2 x3 x4 x5 x6 x7 x8 x9 x10:Val) (h:A6)
def A1v:FD Tryz.prog:=⟨px 0X14821361e2a87ffffd6191b7f01b3601647c0072123211012,[.c (.b false)],[],[.tmp 2],[]⟩
def C0L:=A1v.R
def C4b:=mR C0L A1v (tT []) n [a0] h
def C0h:=A1v.K Tryz.func179
def A86:=A1v.S
theorem A87:SOk Tryz.prog 179 A86:=C0h.sok
theorem B8M:E5 C0L A86:=C0h.flat
def sW:FD Tryz.prog:=⟨px 0X1702dc21611a321ac2802889288917595bd532221d8515607c2c3913182c84163e13cc619211ac64c861c1a614828c144c2c02849119180130123b9232222462bc6101ac61c1a614828c144c2c3b16485414254133155413307024289617c2c2f1238541425413354130605101541324131b8410688282d1341221a84162e13cc61017113fc64f861c044c64ac2f132b121f111b10419411e3fd1841220130123b92322224672a2a82d652a7f62a1f042a4f601617c61c0464d181d1221133013b862ec3112,[.c (.b false),.c (.b true),.c (.i .u8 105),.c (.i .u8 100),.c (.i .u8 120),.c (.i .u8 33)],[.appZ 1 ([.i .u8 0]) (.t 21) (.v (.c (.i .i64 27)))],[.tmp 2,.tmp 3],[cal A87,cal gI,cal iD]⟩
def B3u:=sW.R
def C1y:AtH:=sW.lj 0 n [m] [x1,x4,x5]
def C5o:=tT [⟨2,3,C1y⟩]
def C7Y:=mR B3u sW C5o n [a0] h
def B0e:=mL sW C5o 0 n [m] [x1,x4,x5] h
def C3K:=sW.K Tryz.func177
def B30:=sW.S
theorem B2m:SOk Tryz.prog 177 B30:=C3K.sok
theorem C2P:E2Q B3u B30:=C3K.out2
def sU:FD Tryz.prog:=⟨px 0X168214e1c122124c415607c2a1813185c3119667c3e1a131815430330702461a17c0060374304243033430306051014303231350130221211012,[],[],[.tmp 2],[]⟩
def C4c:=sU.R
def C1x:AtH:=sU.lj 0 n [m] [x0,x3,x4]
def C5n:=tT [⟨2,3,C1x⟩]
def C7X:=mR C4c sU C5n n [a0] h
def B0d:=mL sU C5n 0 n [m] [x0,x3,x4] h
def C3J:=sU.K Tryz.func178
def A5V:=sU.S
theorem nD:SOk Tryz.prog 178 A5V:=C3J.sok
theorem C2O:E5 C4c A5V:=C3J.flat
def jO:FD Tryz.prog:=⟨px 0X1731218491de28496b39332222e81815607c485b131801331218491de01f3e833222241637c61c1a614828c1284c485d15691842423518423327024289617c4859125a1842421842331842316252c81816131ac61c0284e4d4184232422301331218491de01f3e83322224672e2a867e2bf61a227e1af07e3387e36062bc3c3d1184c423242231e801dc6112a6801e3b691d83816111ac28493939776420527c515607c4e1e13181a21fa3e614828c1284c1962a301ac628907c61967c6e0005e28119181554204307024289617c3e1c121d542052542043542040605101542042420335c2491de1f42d961011f3e85296301ac0191542032301f22d922022,[.c (.b false),.c (.b true)],[],[.cellN 2 33,.tmp 3],[cal qD,cal B2m,cal dV,cal nD]⟩
def B3t:=jO.R
def C1v:AtH:=jO.lj 0 n [m] [x0,x2,x4,x5]
def C1w:AtH:=jO.lj 1 n [m] [x2,x4,x8]
def B4n:=tT [⟨2,4,C1v⟩,⟨2,3,C1w⟩]
def C7W:=mR B3t jO B4n n [a0] h
def B0b:=mL jO B4n 0 n [m] [x0,x2,x4,x5] h
def B0c:=mL jO B4n 1 n [m] [x2,x4,x8] h
def C3I:=jO.K Tryz.func114
def B3Z:=jO.S
theorem C8h:SOk Tryz.prog 114 B3Z:=C3I.sok
theorem C2N:E5 B3t B3Z:=C3I.flat
def A1u:FD Tryz.prog:=⟨px 0X1582161c04194d3212012d211212242d657c61c0464d318122113011211212241617c61c044c351221131062ec2112,[],[],[.tmp 2],[]⟩
def A8k:=A1u.R
def C4a:=mR A8k A1u (tT []) n [a0] h
def C0g:=A1u.K Tryz.func181
def A84:=A1u.S
theorem A85:SOk Tryz.prog 181 A84:=C0g.sok
theorem B8L:E5 A8k A84:=C0g.flat
def B06:FD Tryz.prog:=⟨px 0X17c6162e27c261e187c6101ac5a04061e187c6101ac3a00018019613361121032,[.c (.b false)],[],[.tmp 6],[cal nD]⟩
def B75:=B06.R
def D0K:=mR B75 B06 (tT []) n [a0,a1,a2] h
def C89:=B06.K Tryz.func222
def B8N:=B06.S
theorem D0X:SOk Tryz.prog 222 B8N:=C89.sok
theorem C4S:E5 B75 B8N:=C89.flat
def S5:FD Tryz.prog:=⟨px 0X130141254222b81815607c484d1318011b03ec4148035422244c7c117c18621522ec1a15607c585c13183dc191366a2a801bf68b361a1e321bf1af481bf3381bf3581bf361a21bf7f41bf361bf1f1a61481bf28f1181bf4f581bf3604c5e11c019551a1918621634702462a17c6111ac6101ac184938584f155b1a1918621721a1918621631a1918621636451011a1918621621918621531b191119186215235186214327024361e2a816418b7f3818b36061e197c6101ac184938483d1184c18621521862143186214262510118621420318c715607c4e28131801e8613c021824361e2a8161697f386936061a27c4061c1a614828c1184c5e2a11a3b762152157621411a0702462a17c6111ac6101ac5a49382a1b151f762152762143762140605101762142621337016213230141022ed32122,[.c (.b false),.c (.i .i64 (-1)),.c (.b true)],[.eqB false (.t 53) (.t 57)],[.tmp 4,.tmp 5],[cal A85,cal nD,cal D0X]⟩
def B5H:=S5.R
def B2J:AtH:=S5.lj 0 n [m] [x1,x2,x6,x7]
def C8A:AtH:=S5.lj 1 n [m] [x1,x2,x6,x7]
def A3z:AtH:=S5.lj 2 n [m] [x1,x2,x6,x8]
def B2K:AtH:=S5.lj 3 n [m,m2] [x1,x2,x6,x8,x9,x10]
def qK:=tT [⟨2,4,B2J⟩,⟨2,4,C8A⟩,⟨2,4,A3z⟩,⟨3,6,B2K⟩]
def C19:=mR B5H S5 qK n [a0,a1] h
def A4B:=mL S5 qK 0 n [m] [x1,x2,x6,x7] h
def tU:=mJ S5 qK 1 n [m] [x1,x2,x6,x7] h
def A4C:=mL S5 qK 2 n [m] [x1,x2,x6,x8] h
def A4D:=mL S5 qK 3 n [m,m2] [x1,x2,x6,x8,x9,x10] h
def B5n:=S5.K Tryz.func180
def A5U:=S5.S
theorem C2L:SOk Tryz.prog 180 A5U:=B5n.sok
theorem B57:E5 B5H A5U:=B5n.flat
def cZ:FD Tryz.prog:=⟨px 0X1218491de1c4919f3922121e8415607c283b131801a21fa3a614828c11c4c61c1a614828c144c280280181824631a2a83c29a3603818c1418f4321523bc1815607c486e131849c71765a2a862e31eb7f361eb1f1a61481eb28f141eb4f281eb361eb1f1a61481eb28f141eb4f481eb3603c7811a0193518764321732702461a17c280486b136d1876432118218764321731876432172625101187643217276432163301764321623980138c5114a6803e69693885a162e221ac61c1a614828c144c2804495b391a019643215301724633e2a8618c2bf61118c1af618c1f1a614818c28f1418c4f2818c3601627c61c1a614828c144c283d11d59432152432143154321411a0702462a17c6101ac61c044c282e153a43215243214343214060514114321423223621fa01c4c61c044c43213201218491de7e4938221224632a2a82d653a7f63a1f043a4f601617c61c041a4d182932142321334c2491de1f32d901f193e93321321f2d862ec22122,[.c (.b true),.c (.b false)],[],[.cellN 2 33],[cal nD,cal A87,cal C2L]⟩
def B3s:=cZ.R
def A2i:AtH:=cZ.lj 0 n [m] [x1,x2,x3,x4]
def D24:AtH:=cZ.lj 1 n [m] [x1,x2,x3,x4]
def A2j:AtH:=cZ.lj 2 n [m,m2] [x1,x2,x3,x4,x6,x7,x8]
def A6e:=tT [⟨2,4,A2i⟩,⟨2,4,D24⟩,⟨3,7,A2j⟩]
def C7V:=mR B3s cZ A6e n [a0] h
def B0a:=mL cZ A6e 0 n [m] [x1,x2,x3,x4] h
def kJ:=mJ cZ A6e 1 n [m] [x1,x2,x3,x4] h
def kK:=mL cZ A6e 2 n [m,m2] [x1,x2,x3,x4,x6,x7,x8] h
def C3H:=cZ.K Tryz.func115
def B3Y:=cZ.S
theorem C8g:SOk Tryz.prog 115 B3Y:=C3H.sok
theorem C2M:E5 B3s B3Y:=C3H.flat
def W4:FD Tryz.prog:=⟨px 0X128c211c49122125c415607c3a1a131802883163a13cc61011113fc61c1a614828c144c2801c0181824364a2a864b2bf62e224b1af64b1f1a61484b28f144b4f7e4b37e4b3601637c61c1a614828c144c4a1c11e394314215431311a0702462a17c6111ac6101ac44938605194314243133431306051014313231313b81312213b862ec2112,[.c (.b false)],[],[.tmp 2],[cal A85,cal nD,cal B54]⟩
def A0r:=W4.R
def xO:AtH:=W4.lj 0 n [m] [x1,x3,x4]
def C28:AtH:=W4.lj 1 n [m] [x1,x3,x4]
def A0O:=tT [⟨2,3,xO⟩,⟨2,3,C28⟩]
def B5G:=mR A0r W4 A0O n [a0] h
def A02:=mL W4 A0O 0 n [m] [x1,x3,x4] h
def oA:=mJ W4 A0O 1 n [m] [x1,x3,x4] h
def A74:=W4.K Tryz.func116
def A0D:=W4.S
theorem A1W:SOk Tryz.prog 116 A0D:=A74.sok
theorem B3X:pE A0r A0D:=A74.out
end
end Go.Proofs.YtbnkgnfhgbhblaaGreat
namespace Go.Proofs.YtbnkgnfhgbhblaaGreat
open Go Go.Esc
theorem aP {d:Int} {t:List Int} {h:A6}:A84 [.a (encI (d::t))] h=some (iV (V1 d:Nat),h):=by
 have key:∀ g,∃ g',A8k 0 [.a (encI (d::t))] g=some (iV (V1 d:Nat),g'):=by
  intro g;have l0:(encI (d::t))[0]?=some (.i .i64 d):=rfl;rw [C4a];generalize encI (d::t)=y at *;by_cases c1:d<0
  ·have e:((V1 d:Nat):Int)=0:=by unfold V1;omega
   rw [e];exact ⟨_,by simp only [esc,esh,Nat.reduceAdd,Nat.reduceMul,Nat.reduceLT,l0,c1]<;>rfl⟩
  ·by_cases c2:5<d
   ·have e:((V1 d:Nat):Int)=5:=by unfold V1;omega
    rw [e];exact ⟨_,by simp only [esc,esh,Nat.reduceAdd,Nat.reduceMul,Nat.reduceLT,l0,c1,c2]<;>rfl⟩
   ·rw [B1g (by omega) (by omega)];exact ⟨_,by simp only [esc,esh,Nat.reduceAdd,Nat.reduceMul,Nat.reduceLT,l0,c1,c2]<;>rfl⟩
 obtain ⟨g',e⟩:=key (ro h);exact B8L e rfl
theorem D3B {k q:Nat} {h:A6} (hk:k<=32):∀ e i m:Nat,i+e=k->e<m->C1x q m (iV (k:Int)) (iV ((2 ^ i:Nat):Int)) (iV (i:Int)) h=some (iV ((2 ^ k:Nat):Int),h)
 | e,i,0,_,hm=>by omega
 | 0,i,m+1,hi,hm=>by
  have e0:i=k:=by omega
  subst e0;have c0:¬ (i:Int)<i:=by omega
  rw [B0d];simp only [esc,c0]
 | e+1,i,m+1,hi,hm=>by
  have ih:=D3B (q:=q) (h:=h) hk e (i+1) m (by omega) (by omega);have c0:(i:Int)<k:=by omega
  have hp:2 ^ i<=2 ^ 32:=Nat.pow_le_pow_right (by omega) (by omega);have w1:IntKind.wrap .i64 (((2 ^ i:Nat):Int)*2)=((2 ^ (i+1):Nat):Int):=by
   rw [Nat.pow_succ];generalize 2 ^ i=y at hp ⊢;rw [wrap_i64 (by omega) (by omega)];omega
  rw [B0d];generalize ((2 ^ (i+1):Nat):Int)=y1 at *;generalize ((2 ^ i:Nat):Int)=y at *;simp only [esc,c0,w1,C6 (show i+1<9223372036854775808 by omega)];exact ih
theorem A6K {k:Nat} {h:A6} (hk:k<=32):A5V [iV (k:Int)] h=some (iV ((2 ^ k:Nat):Int),h):=by
 have e:=D3B (q:=k+1) (h:=ro h) hk k 0 (k+1) (by omega) (by omega);exact C2O (n:=k+1) (h2:=ro h) (by rw [C7X];exact e) rfl
theorem aQ {d:Int} {h:A6}:A5V [iV (V1 d:Nat)] h=some (iV (B9 d:Nat),h):=A6K (by have:=qS d;omega)
theorem D3I {i p b:Nat} {h:A6} (hb:b<=32):B8N [iV (i:Int),iV (p:Int),iV (b:Int)] h=some (bV (i%2 ^ b==p%2 ^ b),h):=by
 have key:∀ g,∃ g',B75 0 [iV (i:Int),iV (p:Int),iV (b:Int)] g=some (bV (i%2 ^ b==p%2 ^ b),g'):=by
  intro g;have hP:=λh=>A6K (k:=b) (h:=h) hb
  have hp0:0<2 ^ b:=Nat.pow_pos (by omega);rw [D0K];generalize 2 ^ b=s at *;have e1:N5 .rem (iV (i:Int)) (iV (s:Int))=some (iV ((i%s:Nat):Int)):=by rw [A7M (by omega) (by omega)];simp
  have e2:N5 .rem (iV (p:Int)) (iV (s:Int))=some (iV ((p%s:Nat):Int)):=by rw [A7M (by omega) (by omega)];simp
  have e3:decide (((i%s:Nat):Int)=((p%s:Nat):Int))=(i%s==p%s):=by
   rw [Bool.eq_iff_iff,decide_eq_true_eq,beq_iff_eq];omega
  generalize i%s=x at *;generalize p%s=y at *;exact ⟨_,by simp only [esc,hP,e1,e2,e3]<;>rfl⟩
 obtain ⟨g',e⟩:=key (ro h);exact C4S e rfl
end Go.Proofs.YtbnkgnfhgbhblaaGreat
