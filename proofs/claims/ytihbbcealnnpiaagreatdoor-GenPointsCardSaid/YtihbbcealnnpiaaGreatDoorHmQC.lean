/- Parts of the proof. -/
import Derived.Test.YtihbbcealnnpiaaGreatDoorHmEvTab
import Derived.Test.YtihbbcealnnpiaaGreatDoorHmNumOver
import Derived.Test.YtihbbcealnnpiaaGreatDoorHmLiOver
set_option linter.unusedVariables false
namespace Go.Proofs.YtihbbcealnnpiaaGreatDoor
section
section
open Go.RowKit
set_option maxRecDepth 100000
set_option maxHeartbeats 4000000
abbrev RT0:Type:=((Bool × Unit) × (Unit))
abbrev RT1:Type:=((Int × Unit) × (u9 × Unit))
abbrev RT2:Type:=((Int × Unit) × (Unit))
abbrev RT3:Type:=(((List Int) × Unit) × (Unit))
abbrev RT4:Type:=((i9 × Unit) × (Unit))
abbrev RT5:Type:=((l5 × Unit) × (Unit))
abbrev RT6:Type:=((i5 × Unit) × (Unit))
abbrev RT8:Type:=((I3 × Unit) × (Unit))
abbrev N2:Type:=(((List Int) × Unit) × (u9 × Unit))
abbrev F7:Type:=((Unit) × (u9 × Unit))
abbrev tD:Type:=((Int × Int × Unit) × (u9 × Unit))
abbrev E9:Type:=((Int × Int × Unit) × (Unit))
abbrev J6:Type:=((l5 × i5 × Unit) × (Unit))
abbrev o4:Type:=(((List d7) × i5 × Unit) × (Unit))
abbrev Tc:Type:=(((List d7) × Unit) × (Unit))
abbrev H9:Type:=((l5 × Int × Int × Unit) × (Unit))
abbrev R9:Type:=(((b38) × Int × Bool × Unit) × (Unit))
abbrev A5:Type:=((Int × i9 × Unit) × (Unit))
abbrev Fm:Type:=(((b38) × Int × Unit) × (Unit))
abbrev S5:Type:=((Bool × i9 × Unit) × (Unit))
abbrev U9:Type:=(((List (b38)) × (List Int) × Unit) × (Unit))
abbrev V1:Type:=(((List o0) × Int × Unit) × (Unit))
abbrev N6:Type:=((Int × d8 × Unit) × (Unit))
abbrev l8:Type:=((d8 × Unit) × (Unit))
abbrev R3:Type:=(((List v8) × d8 × Unit) × (Unit))
abbrev Iw:Type:=(((List l5) × x8 × Unit) × (Unit))
abbrev Jn:Type:=(((List d7) × x8 × Unit) × (Unit))
abbrev I7:Type:=((l9 × x8 × Unit) × (Unit))
abbrev G2:Type:=((l7 × Unit) × (Unit))
abbrev V7:Type:=((l9 × Bool × Unit) × (Unit))
abbrev Kk:Type:=(((List o0) × Unit) × (Unit))
abbrev Q6:Type:=(((List i6) × Unit) × (Unit))
abbrev C2:Type:=(((List i6) × B8 × Unit) × (Unit))
abbrev Rb:Type:=(((b38) × Unit) × (Unit))
abbrev b3U:=Option l8
abbrev b3V:=Option o4
abbrev b3W:=Option A5
abbrev b3X:=Option C2
abbrev b3Y:=Option E9
abbrev b3Z:=Option F7
abbrev b30:=Option G2
abbrev b31:=Option H9
abbrev b32:=Option I7
abbrev b33:=Option Q6
abbrev b34:=Option R3
abbrev b35:=Option R9
abbrev b36:=Option S5
abbrev b37:=Option V1
inductive Q_C where
 |c0(a:(b38))(b:Int)
 |c1(a:(b38))(b:Int)(c:Bool)
 |c2(a:(b38))(b:Int)(c:Bool)(d:UInt8)
 |c3(a:(b38))(b:Int)(c:Bool)(d:UInt8)
 |c4(a:Int)
 |c5(a:(b38))(b:Int)
 |c6(a:(b38))(b:Int)(c:Int)(d:Int)(e:Int)
 |c7(a:Int)(b:Int)
 |c8(a:Int)
 |c9(a:Int)
 |c10(a:Int)
 |c11
 |c12(a:(b38))(b:Int)
 |c13(a:(b38))(b:Int)
 |c14(a:Int)
 |c15(a:(b38))
 |c16(a:(b38))(b:Int)
 |c17
 |c18(a:I3)
 |c19(a:Int)
 |c20(a:I3)
 |c21(a:(b38))
 |c22(a:(b38))(b:(b38))(c:Int)
 |c23(a:(b38))(b:(b38))
 |c24(a:(b38))(b:(b38))
 |c25(a:(b38))(b:(b38))
 |c26(a:(b38))(b:(b38))(c:Int)(d:Int)
 |c27(a:(b38))(b:(b38))
 |c28(a:(b38))(b:(b38))(c:(b38))
 |c29(a:(b38))(b:(b38))(c:Int)
 |c30(a:(b38))(b:Int)
 |c31(a:(b38))(b:Int)(c:Int)
 |c32(a:(b38))(b:Int)(c:Int)
 |c33(a:(b38))(b:Int)(c:Int)(d:RT2)(e:Int)(f:Int)
 |c34(a:(b38))(b:Int)(c:Int)(d:RT2)(e:Int)(f:Int)
 |c35(a:(b38))(b:Int)(c:Int)(d:RT2)
 |c36(a:(b38))(b:Int)(c:Int)(d:RT2)(e:Int)(f:Int)
 |c37(a:Int)
 |c38(a:Int)
 |c39(a:Int)
 |c40
 |c41(a:(b38))
 |c42(a:(b38))(b:Int)(c:(List Int))
 |c43(a:(b38))(b:Int)(c:(List Int))
 |c44(a:(b38))(b:Int)(c:Int)(d:(List Int))
 |c45(a:(b38))
 |c46(a:(b38))(b:Int)(c:(List Int))
 |c47(a:(b38))(b:Int)(c:(List Int))
 |c48(a:(b38))(b:Int)
 |c49(a:(b38))(b:Int)
 |c50(a:(b38))(b:Int)(c:Int)
 |c51(a:(b38))(b:Int)
 |c52(a:(b38))(b:Int)(c:Int)
 |c53
 |c54(a:(b38))
 |c55(a:(b38))(b:Int)(c:Int)(d:Int)(e:Int)(f:(List l5))
 |c56(a:(b38))(b:Int)(c:Int)(d:Int)(e:(List l5))
 |c57(a:i5)
 |c58(a:i5)
 |c59(a:i5)(b:(b38))
 |c60(a:Int)(b:l5)(c:(b38))(d:Int)(e:(List d7))
 |c61(a:i5)(b:Int)
 |c62(a:i5)(b:(b38))
 |c63(a:i5)(b:Int)
 |c64(a:i5)(b:RT5)
 |c65(a:i5)(b:(b38))
 |c66(a:(b38))(b:i5)
 |c67(a:i5)(b:(b38))
 |c68(a:i5)
 |c69(a:Int)(b:i5)(c:RT5)
 |c70(a:i5)(b:RT5)
 |c71(a:i5)(b:Int)
 |c72(a:i5)
 |c73(a:i5)(b:RT5)(c:J6)(d:(List d7))
 |c74(a:i5)(b:RT5)(c:J6)(d:(List d7))
 |c75(a:(List d7))(b:(List d7))
 |c76(a:i5)
 |c77(a:Int)(b:i5)(c:(List d7))
 |c78(a:Int)(b:i5)(c:(List d7))
 |c79(a:i5)(b:(List d7))
 |c80(a:i5)
 |c81(a:i5)(b:RT5)
 |c82(a:i5)(b:RT5)
 |c83(a:i5)
 |c84(a:i5)
 |c85(a:(List d7))(b:i5)
 |c86(a:(List d7))(b:i5)
 |c87(a:(List d7))(b:i5)
 |c88(a:i5)
 |c89(a:i5)(b:RT5)
 |c90(a:Int)
 |c91(a:i5)(b:Int)
 |c92(a:Int)(b:(List d7))(c:Bool)(d:i5)(e:U9)
 |c93(a:Int)(b:(List d7))(c:Bool)(d:U9)(e:Int)(f:i5)
 |c94(a:Int)(b:(List d7))(c:Bool)(d:i5)(e:U9)
 |c95(a:(List d7))(b:i5)
 |c96(a:i5)
 |c97(a:RT5)(b:i5)(c:(List d7))
 |c98(a:(List d7))(b:RT5)(c:i5)
 |c99(a:o4)(b:RT5)
 |c100(a:o4)(b:RT5)
 |c101(a:o4)(b:i5)(c:RT5)
 |c102(a:o4)(b:d7)(c:RT5)
 |c103(a:i5)
 |c104(a:i5)(b:RT5)(c:(List d7))
 |c105(a:i5)(b:RT5)(c:(List d7))
 |c106(a:i5)
 |c107(a:Int)(b:i5)(c:RT5)(d:J6)(e:(List d7))
 |c108(a:Int)(b:i5)(c:RT5)(d:J6)(e:(List d7))
 |c109(a:Int)(b:i5)(c:RT5)(d:J6)(e:(List d7))
 |c110(a:Int)(b:i5)(c:RT5)(d:J6)(e:(List d7))(f:(List d7))
 |c111(a:i5)
 |c112(a:i5)(b:(List d7))
 |c113(a:i5)(b:(List d7))(c:(List d7))
 |c114(a:i5)(b:(List d7))
 |c115(a:(List d7))(b:i5)
 |c116(a:(List d7))(b:i5)
 |c117(a:(b38))
 |c118(a:(List d7))(b:Int)
 |c119(a:(List d7))(b:Int)(c:Int)(d:(List Int))
 |c120(a:(List Int))
 |c121(a:(List d7))(b:Int)
 |c122(a:(List d7))(b:Int)(c:d7)(d:Int)
 |c123(a:Int)(b:d7)(c:Int)
 |c124(a:(List d7))
 |c125(a:(b38))(b:Int)
 |c126(a:(b38))(b:Int)
 |c127(a:(b38))
 |c128(a:(b38))
 |c129(a:d7)
 |c130(a:d7)
 |c131(a:d7)
 |c132(a:d7)
 |c133(a:d7)
 |c134(a:d7)
 |c135(a:d7)
 |c136
 |c137(a:(b38))(b:Int)
 |c138(a:(b38))(b:Int)(c:Int)
 |c139
 |c140(a:(List d7))(b:Int)
 |c141(a:(List d7))(b:Int)(c:RT3)(d:Int)(e:(List Int))
 |c142(a:(List d7))(b:Int)(c:RT3)(d:(List Int))
 |c143(a:(List d7))(b:Int)(c:(List Int))(d:d7)
 |c144(a:(List d7))
 |c145(a:(List d7))(b:Int)
 |c146
 |c147(a:d8)
 |c148(a:d8)(b:(b38))
 |c149(a:(b38))(b:d8)(c:Int)
 |c150
 |c151(a:(List d7))(b:Int)
 |c152(a:(List d7))(b:Int)(c:RT3)(d:Int)(e:(List Int))
 |c153(a:(List Int))
 |c154(a:(List d7))(b:(List Int))(c:(b38))
 |c155(a:(List d7))(b:(List Int))(c:(b38))(d:Int)
 |c156
 |c157(a:Int)
 |c158(a:Int)(b:Int)(c:(List o0))
 |c159(a:(List o0))
 |c160(a:d8)(b:Int)(c:i8)
 |c161(a:(List o0))(b:Int)
 |c162(a:(List o0))(b:Int)(c:Int)(d:(List o0))
 |c163(a:(List o0))(b:Int)(c:(List o0))
 |c164(a:(List d7))
 |c165(a:(List o0))(b:(List (b38)))(c:d7)
 |c166(a:(List o0))(b:(List (b38)))(c:Int)(d:d7)
 |c167
 |c168(a:(List o0))(b:(List (b38)))(c:(List d7))
 |c169(a:(List d7))(b:Int)(c:Int)(d:(List o0))
 |c170(a:Int)(b:(List o0))
 |c171(a:d8)(b:Int)(c:i8)
 |c172(a:d8)(b:Int)(c:Int)
 |c173(a:d8)(b:Int)
 |c174(a:d8)(b:Int)(c:Int)
 |c175(a:d8)
 |c176(a:d8)(b:RT3)(c:Int)(d:d8)
 |c177(a:d8)(b:RT3)(c:Int)(d:d8)
 |c178(a:d8)(b:RT3)(c:Int)(d:d8)
 |c179(a:d8)(b:RT3)(c:d8)
 |c180(a:d8)(b:RT3)(c:Int)(d:l8)(e:(List (b38)))
 |c181(a:d8)(b:RT3)(c:Int)(d:d8)
 |c182(a:d8)(b:RT3)(c:Int)(d:RT3)(e:Int)(f:Int)(h:Int)(j:d8)
 |c183(a:d8)
 |c184(a:d8)(b:RT3)(c:Int)(d:RT3)(e:Int)(f:Int)(h:Int)(j:d8)
 |c185(a:d8)(b:RT3)(c:Int)(d:RT3)(e:Int)(f:Int)(h:Int)(j:d8)
 |c186(a:d8)(b:RT3)(c:Int)(d:RT3)(e:Int)(f:Int)(h:d8)
 |c187(a:d8)(b:RT3)(c:Int)(d:RT3)(e:Int)(f:Int)(h:Int)(j:l8)(k:(List Q3))
 |c188(a:d8)(b:RT3)(c:Int)(d:d8)(e:(List M9))
 |c189(a:(b38))
 |c190(a:(b38))(b:Int)
 |c191
 |c192(a:d8)(b:Int)(c:i8)
 |c193(a:d8)(b:Int)(c:Int)
 |c194(a:d8)(b:Int)
 |c195(a:d8)
 |c196(a:d8)(b:RT3)(c:Int)(d:d8)
 |c197(a:d8)(b:RT3)(c:Int)(d:Int)(e:RT3)(f:Int)(h:Int)(j:d8)
 |c198(a:d8)(b:RT3)(c:Int)(d:Int)(e:Int)(f:d8)
 |c199(a:d8)
 |c200(a:d8)(b:RT3)(c:Int)(d:Int)(e:RT3)(f:Int)(h:Int)(j:d8)
 |c201(a:d8)(b:RT3)(c:Int)(d:Int)(e:RT3)(f:Int)(h:Int)(j:d8)
 |c202(a:d8)(b:RT3)(c:Int)(d:Int)(e:RT3)(f:Int)(h:d8)
 |c203(a:d8)(b:RT3)(c:Int)(d:Int)(e:Int)(f:d8)
 |c204(a:d8)(b:RT3)(c:Int)(d:Int)(e:RT3)(f:Int)(h:Int)(j:l8)
 |c205(a:d8)(b:RT3)(c:Int)(d:l8)(e:(List t8))
 |c206(a:d8)(b:RT3)(c:Int)(d:Int)(e:d8)
 |c207(a:d8)(b:Int)(c:(List v8))(d:(b38))(e:Int)(f:Int)(h:Int)
 |c208(a:d8)(b:Int)(c:Int)
 |c209(a:d8)(b:Int)(c:i8)
 |c210(a:d8)(b:Int)
 |c211(a:d8)(b:Int)(c:(List v8))(d:Int)
 |c212(a:Int)(b:(List v8))(c:Int)(d:Int)(e:d8)
 |c213(a:Int)(b:(List v8))(c:Int)(d:Int)(e:Int)(f:Int)(h:d8)(j:d7)
 |c214(a:Int)(b:(List v8))(c:Int)(d:Int)(e:Int)(f:d8)
 |c215(a:d8)
 |c216(a:Int)(b:(List v8))(c:Int)(d:Int)(e:Int)(f:d8)
 |c217(a:Int)(b:(List v8))(c:Int)(d:Int)(e:d8)
 |c218(a:d8)(b:Int)(c:(List v8))(d:Int)(e:Int)
 |c219(a:Int)(b:(List v8))(c:RT3)(d:Int)(e:d8)
 |c220(a:Int)(b:(List v8))(c:Int)(d:Int)(e:d8)(f:N6)(h:Int)(j:d8)(k:d7)
 |c221(a:Int)(b:(List v8))(c:Int)(d:Int)(e:d8)(f:N6)(h:d8)(j:d7)
 |c222(a:(List v8))(b:d8)
 |c223(a:Int)(b:(List v8))(c:Int)(d:Int)(e:d8)(f:N6)(h:d8)(j:d7)
 |c224(a:Int)(b:(List v8))(c:Int)(d:Int)(e:d8)(f:N6)(h:d8)(j:d7)
 |c225(a:d8)(b:Int)(c:(List v8))(d:Int)
 |c226(a:Int)(b:(List v8))(c:Int)(d:RT3)(e:Int)(f:d8)
 |c227(a:(List v8))(b:Int)(c:d8)
 |c228(a:(List v8))(b:Int)(c:Int)(d:d8)(e:(List J0))
 |c229(a:d8)(b:(List J0))
 |c230(a:d8)(b:Int)
 |c231(a:Int)(b:RT3)(c:Int)(d:d8)(e:(List v8))
 |c232(a:Int)(b:RT3)(c:d8)(d:(List v8))
 |c233(a:(List d7))
 |c234(a:Int)(b:Int)(c:d8)
 |c235(a:d8)
 |c236(a:RT2)(b:d8)
 |c237(a:d8)
 |c238(a:d8)
 |c239(a:i9)(b:Int)(c:Int)
 |c240(a:i9)(b:Bool)(c:Int)
 |c241(a:(List o0))(b:Int)(c:Int)
 |c242(a:i9)(b:Int)(c:Int)
 |c243(a:Int)
 |c244(a:i9)(b:Int)
 |c245(a:i9)(b:Int)(c:Int)
 |c246(a:i9)(b:Int)
 |c247(a:Int)(b:RT3)(c:Int)(d:i9)(e:(List Int))
 |c248(a:Int)(b:i9)(c:RT3)(d:(List Int))
 |c249(a:Fm)(b:RT3)(c:Int)(d:i9)(e:(List Int))
 |c250(a:RT3)(b:Int)(c:i9)(d:t8)(e:(List Int))
 |c251(a:Fm)(b:i9)
 |c252(a:i9)(b:t8)
 |c253(a:i9)(b:Int)(c:Int)
 |c254(a:Int)(b:A5)
 |c255(a:Int)(b:Int)(c:A5)(d:M9)
 |c256(a:Int)(b:A5)
 |c257(a:i9)(b:Int)(c:Int)(d:Int)
 |c258(a:Int)(b:Int)
 |c259(a:Int)(b:Int)(c:RT2)(d:RT2)(e:i9)
 |c260(a:Int)
 |c261(a:Int)(b:Int)
 |c262
 |c263(a:i9)(b:Int)(c:Int)
 |c264(a:i9)(b:Int)
 |c265(a:Int)(b:Int)(c:i9)
 |c266(a:Int)(b:Int)(c:A5)(d:RT3)
 |c267(a:Int)(b:Int)(c:A5)(d:A5)(e:RT3)
 |c268(a:Int)(b:i8)(c:i9)(d:d7)(e:RT3)
 |c269(a:i9)(b:Int)
 |c270(a:A5)(b:A5)(c:i9)(d:RT3)
 |c271(a:Bool)(b:Int)(c:i9)(d:RT3)
 |c272(a:i9)(b:RT3)
 |c273(a:Bool)(b:i9)
 |c274(a:i9)(b:Int)
 |c275(a:Bool)(b:RT3)(c:Int)(d:i9)
 |c276(a:Bool)(b:i9)
 |c277(a:(List d7))
 |c278(a:(List d7))(b:I7)(c:Int)(d:i9)
 |c279(a:I7)(b:i9)
 |c280(a:(b38))
 |l16_source(a:(b38))
 |c282(a:u9)(b:Int)
 |c283(a:Int)(b:u9)(c:Int)(d:(List Int))
 |c284(a:u9)(b:(List Int))
 |c285(a:u9)(b:Int)(c:Int)(d:Int)
 |c286(a:u9)
 |c287(a:u9)(b:Int)
 |c288(a:u9)(b:(b38))
 |c289(a:(b38))(b:Int)(c:Bool)(d:u9)
 |c290(a:u9)(b:d7)(c:i8)
 |c291(a:u9)(b:Int)
 |c292(a:Int)(b:(List Int))(c:Int)(d:Int)(e:d7)(f:i8)(h:u9)
 |c293(a:Int)(b:Int)(c:F7)(d:N2)
 |c294(a:Int)(b:d7)(c:N2)
 |c295(a:Int)(b:(List Int))(c:d7)(d:i8)(e:N2)
 |c296(a:Int)(b:d7)(c:i8)(d:u9)
 |c297(a:u9)(b:Int)(c:(List Int))
 |c298(a:Int)(b:(List Int))(c:N2)(d:Int)(e:u9)
 |c299(a:Int)(b:(List Int))(c:u9)
 |c300(a:u9)(b:Int)
 |c301(a:Int)(b:u9)
 |c302(a:u9)(b:Int)
 |c303(a:N2)(b:Int)(c:u9)
 |c304(a:l9)
 |c305(a:l9)(b:Int)(c:u9)
 |c306(a:l9)(b:Int)(c:RT1)(d:RT2)(e:t8)(f:Int)
 |c307(a:u9)
 |c308(a:l9)(b:Int)(c:RT1)(d:(List y7))
 |c309(a:l7)(b:Int)
 |l16_awake
 |c311(a:l7)(b:Int)
 |c312(a:Int)(b:l7)(c:Int)
 |c313(a:Int)(b:Int)(c:l7)(d:Int)(e:y7)(f:Int)
 |c314
 |c315(a:Int)(b:l7)(c:Int)
 |l16_GenPoints(a:(b38))
 |c317(a:Int)(b:Int)(c:V7)(d:G2)
 |c318(a:Int)(b:Int)(c:Int)(d:V7)(e:y7)(f:G2)
 |c319(a:Int)(b:V7)(c:G2)
 |c320(a:Int)(b:Int)(c:V7)(d:G2)
 |c321(a:(List i6))(b:Int)
 |c322(a:(List i6))(b:Int)(c:Int)(d:(List i6))
 |c323(a:(List i6))(b:Int)(c:Int)(d:i6)(e:Int)(f:(List i6))
 |c324(a:(List i6))
 |c325(a:(List i6))(b:Int)(c:Int)(d:(List i6))
 |c326(a:(List i6))(b:(List i6))
 |c327(a:B8)(b:Int)(c:Int)(d:Int)
 |c328(a:B8)(b:(List Int))
 |c329(a:(List Int))(b:Int)(c:B8)(d:(List i6))
 |c330(a:B8)(b:(List i6))
 |c331(a:B8)(b:Int)
 |c332(a:C2)(b:(List (b38)))(c:(List i6))
 |c333(a:Int)(b:Int)(c:C2)(d:Int)(e:d7)
 |c334(a:Int)(b:(List Int))(c:B8)(d:d7)
 |c335(a:Int)(b:B8)(c:d7)(d:RT3)
 |c336(a:Int)(b:Int)(c:C2)(d:d7)
 |c337(a:Int)(b:Int)(c:C2)(d:(List (b38)))
 |c338(a:B8)(b:Int)(c:(List Int))(d:(List i6))
 |c339(a:B8)(b:Int)
 |c340(a:B8)(b:Int)
 |c341(a:RT3)(b:Int)(c:B8)(d:(List i6))
 |c342(a:B8)(b:(List i6))
 |c343(a:l9)
 |c344(a:l9)(b:Int)(c:B8)(d:(List i6))(e:(List y7))
 |c345(a:l9)(b:Int)(c:C2)(d:(List i6))(e:Q6)(f:t8)(h:Int)(j:(List y7))
 |c346(a:B8)(b:(List i6))(c:(List y7))
 |c347(a:l9)(b:Int)(c:C2)(d:(List i6))(e:(List y7))
 |c348(a:l7)(b:l7)
 |c349(a:l7)(b:Int)(c:l7)
 |c350(a:l7)(b:l7)
 |c351(a:l7)(b:Int)(c:l7)
 |c352(a:l7)(b:l7)
 |c353(a:l7)(b:Int)(c:l7)
 |c354
def Q_T:Q_C→Type
 |.c0 .. |.c1 .. |.c2 .. |.c3 .. |.c4 .. |.c8 .. |.c9 .. |.c10 .. |.c11 .. |.c12 .. |.c13 .. |.c14 .. |.c20 .. |.c37 .. |.c38 .. |.c39 .. |.c40 .. |.c121 .. |.c122 .. |.c123 .. |.c132 .. |.c133 .. |.c134 .. |.c135 .. |.c136 .. |.c148 .. |.c149 .. |.c150 .. |.c165 .. |.c166 .. |.c167 .. |.c189 .. |.c190 .. |.c191 .. |.c244 .. |.c257 .. |.c258 .. |.c259 .. |.c260 .. |.c261 .. |.c262 .. |.c286 .. =>RT2
 |.c5 .. |.c6 .. |.c7 .. |.c21 .. |.c22 .. |.c23 .. |.c24 .. |.c25 .. |.c26 .. |.c27 .. |.c28 .. |.c29 .. |.c311 .. |.c312 .. |.c313 .. |.c314 .. |.c315 .. =>E9
 |.c15 .. |.c16 .. |.c17 .. |.c57 .. |.c59 .. |.c124 .. |.c125 .. |.c126 .. |.c127 .. |.c128 .. |.c129 .. |.c130 .. |.c131 .. |.c137 .. |.c138 .. |.c139 .. |.c140 .. |.c141 .. |.c142 .. |.c143 .. |.c144 .. |.c145 .. |.c146 .. |.c147 .. |.c154 .. |.c155 .. |.c156 .. |.c164 .. |.c241 .. |.c242 .. |.c245 .. |.l16_awake .. |.l16_GenPoints .. |.c317 .. |.c318 .. |.c319 .. |.c320 .. |.c348 .. |.c349 .. |.c350 .. |.c351 .. |.c352 .. |.c353 .. |.c354 .. =>RT0
 |.c18 .. |.c19 .. =>RT8
 |.c30 .. |.c31 .. |.c32 .. |.c33 .. |.c34 .. |.c35 .. |.c36 .. |.c48 .. |.c49 .. |.c50 .. |.c51 .. |.c52 .. |.c53 .. =>H9
 |.c41 .. |.c42 .. |.c43 .. |.c44 .. |.c45 .. |.c46 .. |.c47 .. =>R9
 |.c54 .. |.c55 .. |.c56 .. =>Iw
 |.c58 .. =>RT5
 |.c60 .. |.c75 .. =>Tc
 |.c61 .. |.c62 .. |.c65 .. |.c66 .. |.c67 .. =>RT6
 |.c63 .. |.c64 .. =>J6
 |.c68 .. |.c69 .. |.c70 .. |.c71 .. |.c72 .. |.c73 .. |.c74 .. |.c76 .. |.c77 .. |.c78 .. |.c79 .. |.c80 .. |.c81 .. |.c82 .. |.c83 .. |.c84 .. |.c85 .. |.c86 .. |.c87 .. |.c88 .. |.c89 .. |.c91 .. |.c92 .. |.c93 .. |.c94 .. |.c95 .. |.c96 .. |.c97 .. |.c98 .. |.c99 .. |.c100 .. |.c101 .. |.c102 .. |.c103 .. |.c104 .. |.c105 .. |.c106 .. |.c107 .. |.c108 .. |.c109 .. |.c110 .. |.c111 .. |.c112 .. |.c113 .. |.c114 .. =>o4
 |.c90 .. =>U9
 |.c115 .. |.c116 .. |.c117 .. =>Jn
 |.c118 .. |.c119 .. |.c120 .. |.c151 .. |.c152 .. |.c153 .. =>RT3
 |.c157 .. |.c158 .. |.c159 .. =>Kk
 |.c160 .. |.c171 .. |.c172 .. |.c174 .. |.c175 .. |.c176 .. |.c177 .. |.c178 .. |.c179 .. |.c180 .. |.c181 .. |.c182 .. |.c183 .. |.c184 .. |.c185 .. |.c186 .. |.c187 .. |.c188 .. |.c192 .. |.c193 .. |.c195 .. |.c196 .. |.c197 .. |.c198 .. |.c199 .. |.c200 .. |.c201 .. |.c202 .. |.c203 .. |.c204 .. |.c205 .. |.c206 .. |.c208 .. |.c209 .. |.c211 .. |.c212 .. |.c213 .. |.c214 .. |.c215 .. |.c216 .. |.c217 .. |.c225 .. |.c226 .. |.c227 .. |.c228 .. |.c229 .. |.c230 .. |.c231 .. |.c232 .. =>l8
 |.c161 .. |.c162 .. |.c163 .. |.c168 .. |.c169 .. |.c170 .. =>V1
 |.c173 .. |.c194 .. |.c210 .. =>N6
 |.c207 .. |.c218 .. |.c219 .. |.c220 .. |.c221 .. |.c222 .. |.c223 .. |.c224 .. =>R3
 |.c233 .. |.c234 .. |.c235 .. |.c236 .. |.c237 .. |.c238 .. |.c277 .. |.c278 .. |.c279 .. |.c280 .. =>I7
 |.c239 .. |.c240 .. |.c263 .. =>RT4
 |.c243 .. =>Fm
 |.c246 .. |.c247 .. |.c248 .. |.c249 .. |.c250 .. |.c251 .. |.c252 .. |.c253 .. |.c254 .. |.c255 .. |.c256 .. |.c264 .. |.c265 .. |.c266 .. |.c267 .. |.c268 .. =>A5
 |.c269 .. |.c270 .. |.c271 .. |.c272 .. |.c273 .. |.c274 .. |.c275 .. |.c276 .. =>S5
 |.l16_source .. =>V7
 |.c282 .. |.c283 .. |.c284 .. =>N2
 |.c285 .. |.c288 .. |.c289 .. =>RT1
 |.c287 .. |.c291 .. |.c292 .. |.c293 .. |.c294 .. |.c295 .. |.c296 .. |.c297 .. |.c298 .. |.c299 .. |.c300 .. |.c301 .. |.c302 .. |.c303 .. =>F7
 |.c290 .. =>tD
 |.c304 .. |.c305 .. |.c306 .. |.c307 .. |.c308 .. |.c343 .. |.c344 .. |.c345 .. |.c346 .. |.c347 .. =>G2
 |.c309 .. =>Rb
 |.c321 .. |.c322 .. |.c323 .. |.c324 .. |.c325 .. |.c326 .. |.c327 .. =>Q6
 |.c328 .. |.c329 .. |.c330 .. |.c331 .. |.c332 .. |.c333 .. |.c334 .. |.c335 .. |.c336 .. |.c337 .. |.c338 .. |.c339 .. |.c340 .. |.c341 .. |.c342 .. =>C2
noncomputable def b13:Jy tab O3 Tryz.prog:=gB 18 (α:=((I3 × Unit) × Unit)) (β:=RT8) (fun x=>(Rg x.1.1).bind fun r=>some ((r,()),())) (ok:=fun x r h=>by
 obtain⟨d,hd,h⟩:=Yb h;cases h;exact Eq.mp (by kernel_rfl) (Zq (a4v hd) (by kernel_rfl)))
noncomputable def a3D:Jy tab O3 Tryz.prog:=gB 19 (α:=((Int × Unit) × Unit)) (β:=RT8) (fun x=>(nE x.1.1).bind fun r=>some ((r,()),())) (ok:=fun x r h=>by
 obtain⟨d,hd,h⟩:=Yb h;cases h;exact Eq.mp (by kernel_rfl) (Zq (b1N hd) (by kernel_rfl)))
noncomputable def b2c:Jy tab O3 Tryz.prog:=gB 20 (α:=((I3 × Unit) × Unit)) (β:=RT2) (fun x=>(Sa x.1.1).bind fun r=>some ((r,()),())) (ok:=fun x r h=>by
 obtain⟨d,hd,h⟩:=Yb h;cases h;exact Eq.mp (by kernel_rfl) (Zq (a8v hd) (by kernel_rfl)))
noncomputable def a9Q:Jy tab O3 Tryz.prog:=gB 309 (α:=((l7 × Int × Unit) × Unit)) (β:=Rb) (fun x=>(cT x.1.1 x.1.2.1).bind fun r=>some ((r,()),())) (ok:=fun x r h=>by
 obtain⟨d,hd,h⟩:=Yb h;cases h;exact Eq.mp (by kernel_rfl) (Zq (b0z hd) (by kernel_rfl)))
noncomputable def xA:(i:Ix tab O3)→Option (Bx tab O3 i):=sI (P:=Tryz.prog) [b13,a3D,b2c,a9Q]
theorem b0M(l:Nat)(x:Vars tab (O3.lb l).sh)(r:Res tab (O3.rh (O3.lb l).v))(_:O3.hd l=true)(h:xA ⟨l,x⟩=some r):Ed Tryz.prog O3 l x r:=UC _ l x r h
def wD:List FuncId:=[]
noncomputable def Q_B:=EVB (B:=tab) Tryz.prog O3 xA (Cm Tryz.prog O3 lQ wD (Y9 UA) (Y9 TR) (Y9 OK)) 1000
theorem Q_q(i:Ix tab O3):G4 Q_B i=Q_B (G4 Q_B) i:=FF (fun i=>LP _ _ _ _ _ _ _ _ i) i
noncomputable def YF:Q_C→Ix tab O3
 |.c0 a b=>mkI 0 ((a,b,()),())
 |.c1 a b c=>mkI 1 ((a,b,c,()),())
 |.c2 a b c d=>mkI 2 ((a,b,c,(d.toNat:Int),()),())
 |.c3 a b c d=>mkI 3 ((a,b,c,(d.toNat:Int),()),())
 |.c4 a=>mkI 4 ((a,()),())
 |.c5 a b=>mkI 5 ((a,b,()),())
 |.c6 a b c d e=>mkI 6 ((a,b,c,d,e,()),())
 |.c7 a b=>mkI 7 ((a,b,()),())
 |.c8 a=>mkI 8 ((a,()),())
 |.c9 a=>mkI 9 ((a,()),())
 |.c10 a=>mkI 10 ((a,()),())
 |.c11=>mkI 11 ((),())
 |.c12 a b=>mkI 12 ((a,b,()),())
 |.c13 a b=>mkI 13 ((a,b,()),())
 |.c14 a=>mkI 14 ((a,()),())
 |.c15 a=>mkI 15 ((a,()),())
 |.c16 a b=>mkI 16 ((a,([([114,101,99]:b38),([102,110]:b38),([118,97,114]:b38),([105,102]:b38),([101,108,115,101]:b38),([119,104,105,108,101]:b38),([114,101,116,117,114,110]:b38),([112,114,105,110,116]:b38),([116,114,117,101]:b38),([102,97,108,115,101]:b38),([110,105,108]:b38),([109,97,107,101]:b38),([105,110,116]:b38),([98,111,111,108]:b38),([115,116,114]:b38),([99,111,109,112]:b38)]:List (b38)),(([([114,101,99]:b38),([102,110]:b38),([118,97,114]:b38),([105,102]:b38),([101,108,115,101]:b38),([119,104,105,108,101]:b38),([114,101,116,117,114,110]:b38),([112,114,105,110,116]:b38),([116,114,117,101]:b38),([102,97,108,115,101]:b38),([110,105,108]:b38),([109,97,107,101]:b38),([105,110,116]:b38),([98,111,111,108]:b38),([115,116,114]:b38),([99,111,109,112]:b38)]:List (b38)).length:Int),b,()),())
 |.c17=>mkI 17 ((),())
 |.c18 a=>mkI 18 ((a,()),())
 |.c19 a=>mkI 19 ((a,()),())
 |.c20 a=>mkI 20 ((a,()),())
 |.c21 a=>mkI 21 ((a,()),())
 |.c22 a b c=>mkI 22 ((a,b,c,()),())
 |.c23 a b=>mkI 23 ((a,b,()),())
 |.c24 a b=>mkI 24 ((a,b,()),())
 |.c25 a b=>mkI 25 ((a,b,()),())
 |.c26 a b c d=>mkI 26 ((a,b,c,d,()),())
 |.c27 a b=>mkI 27 ((a,b,()),())
 |.c28 a b c=>mkI 28 ((a,b,c,()),())
 |.c29 a b c=>mkI 29 ((a,b,c,()),())
 |.c30 a b=>mkI 30 ((a,b,()),())
 |.c31 a b c=>mkI 31 ((a,b,(),c,()),((l5.mk 0 0 0 0 ([]:b38)),()))
 |.c32 a b c=>mkI 32 ((a,b,(),c,()),((l5.mk 0 0 0 0 ([]:b38)),()))
 |.c33 a b c d e f=>mkI 33 ((a,b,(),c,d.1.1,(),e,()),((l5.mk 0 0 0 0 ([]:b38)),(l5.mk f 0 0 0 ([]:b38)),()))
 |.c34 a b c d e f=>mkI 34 ((a,b,(),c,d.1.1,(),e,()),((l5.mk 0 0 0 0 ([]:b38)),(l5.mk f 0 0 0 ([]:b38)),()))
 |.c35 a b c d=>mkI 35 ((a,b,(),c,d.1.1,(),(9223372036854775807:Int),()),((l5.mk 0 0 0 0 ([]:b38)),(l5.mk 3 0 0 0 ([]:b38)),()))
 |.c36 a b c d e f=>mkI 36 ((a,b,(),c,d.1.1,(),e,()),((l5.mk 0 0 0 0 ([]:b38)),(l5.mk f 0 0 0 ([]:b38)),()))
 |.c37 a=>mkI 37 ((a,()),())
 |.c38 a=>mkI 38 ((a,()),())
 |.c39 a=>mkI 39 ((a,()),())
 |.c40=>mkI 40 ((),())
 |.c41 a=>mkI 41 ((a,()),())
 |.c42 a b c=>mkI 42 ((a,c,b,()),())
 |.c43 a b c=>mkI 43 ((a,c,(w64 (b+1)),()),())
 |.c44 a b c d=>mkI 44 ((a,d,(w64 (b+1)),c,()),())
 |.c45 a=>mkI 45 ((a,()),())
 |.c46 a b c=>mkI 46 ((a,c,b,()),())
 |.c47 a b c=>mkI 47 ((a,c,(w64 (b+1)),()),())
 |.c48 a b=>mkI 48 ((a,b,()),())
 |.c49 a b=>mkI 49 ((a,b,(),()),((l5.mk 0 0 0 0 ([]:b38)),()))
 |.c50 a b c=>mkI 50 ((a,b,(),([([38,38]:b38),([124,124]:b38),([61,61]:b38),([33,61]:b38),([60,61]:b38),([62,61]:b38)]:List (b38)),(([([38,38]:b38),([124,124]:b38),([61,61]:b38),([33,61]:b38),([60,61]:b38),([62,61]:b38)]:List (b38)).length:Int),c,()),((l5.mk 0 0 0 0 ([]:b38)),()))
 |.c51 a b=>mkI 51 ((a,b,(),()),((l5.mk 0 0 0 0 ([]:b38)),()))
 |.c52 a b c=>mkI 52 ((a,b,(),([43,45,42,47,37,60,62,33,61,40,41,123,125,91,93,44,59,58,46]:b38),c,()),((l5.mk 0 0 0 0 ([]:b38)),()))
 |.c53=>mkI 53 (((),()),((l5.mk 0 0 0 0 ([]:b38)),()))
 |.c54 a=>mkI 54 ((a,()),())
 |.c55 a b c d e f=>mkI 55 ((a,(),([]:List l5),f,b,c,d,e,()),((x8.mk 0 0 0),()))
 |.c56 a b c d e=>mkI 56 ((a,(),([]:List l5),e,b,c,d,()),((x8.mk 0 0 0),()))
 |.c57 a=>mkI 57 ((a,()),())
 |.c58 a=>mkI 58 ((a,()),())
 |.c59 a b=>mkI 59 ((a,b,()),())
 |.c60 a b c d e=>mkI 60 ((a,b,c,d,e,()),())
 |.c61 a b=>mkI 61 ((a,b,()),())
 |.c62 a b=>mkI 62 ((a,b,()),())
 |.c63 a b=>mkI 63 ((a,b,()),())
 |.c64 a b=>mkI 64 (((),(),(),(),()),(a,(l5.mk 0 0 0 0 ([]:b38)),((),(0:Int),(0:Int),(0:Int),(0:Int),(0:Int),()),b.1.1,()))
 |.c65 a b=>mkI 65 ((a,b,()),())
 |.c66 a b=>mkI 66 ((a,(),(),()),(b,((),(0:Int),(0:Int),(0:Int),(0:Int),(0:Int),()),()))
 |.c67 a b=>mkI 67 ((a,b,()),())
 |.c68 a=>mkI 68 ((a,()),())
 |.c69 a b c=>mkI 69 (((),(),(),([([105,110,116]:b38),([98,111,111,108]:b38),([115,116,114]:b38),([99,111,109,112]:b38)]:List (b38)),(([([105,110,116]:b38),([98,111,111,108]:b38),([115,116,114]:b38),([99,111,109,112]:b38)]:List (b38)).length:Int),a,()),(b,((),(0:Int),(0:Int),(0:Int),(0:Int),(0:Int),()),c.1.1,()))
 |.c70 a b=>mkI 70 (((),(),(),()),(a,((),(0:Int),(0:Int),(0:Int),(0:Int),(0:Int),()),b.1.1,()))
 |.c71 a b=>mkI 71 ((a,b,()),())
 |.c72 a=>mkI 72 ((a,()),())
 |.c73 a b c d=>mkI 73 (((),(),(),(),d,()),(a,((),(0:Int),(0:Int),(0:Int),(0:Int),(0:Int),()),b.1.1,c.1.1,()))
 |.c74 a b c d=>mkI 74 (((),(),(),(),d,()),(a,((),(0:Int),(0:Int),(0:Int),(0:Int),(0:Int),()),b.1.1,c.1.1,()))
 |.c75 a b=>mkI 75 ((a,b,()),())
 |.c76 a=>mkI 76 ((a,()),())
 |.c77 a b c=>mkI 77 (((),(),c,a,()),(b,((),(0:Int),(0:Int),(0:Int),(0:Int),(0:Int),()),()))
 |.c78 a b c=>mkI 78 (((),(),c,a,()),(b,((),(0:Int),(0:Int),(0:Int),(0:Int),(0:Int),()),()))
 |.c79 a b=>mkI 79 (((),(),b,()),(a,((),(0:Int),(0:Int),(0:Int),(0:Int),(0:Int),()),()))
 |.c80 a=>mkI 80 ((a,()),())
 |.c81 a b=>mkI 81 (((),(),(),([]:List d7),(),()),(a,((),(0:Int),(0:Int),(0:Int),(0:Int),(0:Int),()),b.1.1,(i5.mk a.L (if(w64 ((a.L.length:Int)-1))<(w64 (a.I+1))then(w64 ((a.L.length:Int)-1))else(w64 (a.I+1))) a.On a.F),()))
 |.c82 a b=>mkI 82 (((),(),(),([]:List d7),(),()),(a,((),(0:Int),(0:Int),(0:Int),(0:Int),(0:Int),()),b.1.1,(i5.mk a.L (if(w64 ((a.L.length:Int)-1))<(w64 (a.I+1))then(w64 ((a.L.length:Int)-1))else(w64 (a.I+1))) a.On a.F),()))
 |.c83 a=>mkI 83 (((),(),()),(a,((),(0:Int),(0:Int),(0:Int),(0:Int),(0:Int),()),()))
 |.c84 a=>mkI 84 ((a,()),())
 |.c85 a b=>mkI 85 (((),(),a,()),(b,((),(0:Int),(0:Int),(0:Int),(0:Int),(0:Int),()),()))
 |.c86 a b=>mkI 86 (((),(),a,()),(b,((),(0:Int),(0:Int),(0:Int),(0:Int),(0:Int),()),()))
 |.c87 a b=>mkI 87 (((),(),a,()),(b,((),(0:Int),(0:Int),(0:Int),(0:Int),(0:Int),()),()))
 |.c88 a=>mkI 88 ((a,()),())
 |.c89 a b=>mkI 89 (((),(),(),()),(a,((),(0:Int),(0:Int),(0:Int),(0:Int),(0:Int),()),b.1.1,()))
 |.c90 a=>mkI 90 ((a,()),())
 |.c91 a b=>mkI 91 ((a,b,()),())
 |.c92 a b c d e=>mkI 92 ((a,(),(),b,e.1.1,e.1.2.1,c,()),(d,((),(0:Int),(0:Int),(0:Int),(0:Int),(0:Int),()),()))
 |.c93 a b c d e f=>mkI 93 ((a,(),(),b,d.1.1,d.1.2.1,c,(d.1.1.length:Int),e,()),(f,((),(0:Int),(0:Int),(0:Int),(0:Int),(0:Int),()),()))
 |.c94 a b c d e=>mkI 94 ((a,(),(),b,e.1.1,e.1.2.1,c,()),(d,((),(0:Int),(0:Int),(0:Int),(0:Int),(0:Int),()),()))
 |.c95 a b=>mkI 95 (((),(),a,()),(b,((),(0:Int),(0:Int),(0:Int),(0:Int),(0:Int),()),()))
 |.c96 a=>mkI 96 ((a,()),())
 |.c97 a b c=>mkI 97 (((),(),(),c,()),(((),(0:Int),(0:Int),(0:Int),(0:Int),(0:Int),()),a.1.1,b,()))
 |.c98 a b c=>mkI 98 (((),(),(),a,()),(((),(0:Int),(0:Int),(0:Int),(0:Int),(0:Int),()),b.1.1,c,()))
 |.c99 a b=>mkI 99 (((),(),(),a.1.1,()),(a.1.2.1,((),(0:Int),(0:Int),(0:Int),(0:Int),(0:Int),()),b.1.1,()))
 |.c100 a b=>mkI 100 (((),(),(),a.1.1,()),(a.1.2.1,((),(0:Int),(0:Int),(0:Int),(0:Int),(0:Int),()),b.1.1,()))
 |.c101 a b c=>mkI 101 (((),(),(),a.1.1,()),(b,((),(0:Int),(0:Int),(0:Int),(0:Int),(0:Int),()),c.1.1,()))
 |.c102 a b c=>mkI 102 (((),(),(),a.1.1,b.Ks,()),(a.1.2.1,((),(0:Int),(0:Int),(0:Int),(0:Int),(0:Int),()),c.1.1,()))
 |.c103 a=>mkI 103 ((a,()),())
 |.c104 a b c=>mkI 104 (((),(),(),c,()),(a,((),(0:Int),(0:Int),(0:Int),(0:Int),(0:Int),()),b.1.1,()))
 |.c105 a b c=>mkI 105 (((),(),(),c,()),(a,((),(0:Int),(0:Int),(0:Int),(0:Int),(0:Int),()),b.1.1,()))
 |.c106 a=>mkI 106 ((a,()),())
 |.c107 a b c d e=>mkI 107 (((),(),(),(),e,a,()),(b,((),(0:Int),(0:Int),(0:Int),(0:Int),(0:Int),()),c.1.1,d.1.1,()))
 |.c108 a b c d e=>mkI 108 (((),(),(),(),e,a,()),(b,((),(0:Int),(0:Int),(0:Int),(0:Int),(0:Int),()),c.1.1,d.1.1,()))
 |.c109 a b c d e=>mkI 109 (((),(),(),(),e,a,()),(b,((),(0:Int),(0:Int),(0:Int),(0:Int),(0:Int),()),c.1.1,d.1.1,()))
 |.c110 a b c d e f=>mkI 110 (((),(),(),(),e,a,f,()),(b,((),(0:Int),(0:Int),(0:Int),(0:Int),(0:Int),()),c.1.1,d.1.1,()))
 |.c111 a=>mkI 111 ((a,()),())
 |.c112 a b=>mkI 112 (((),(),b,()),(a,((),(0:Int),(0:Int),(0:Int),(0:Int),(0:Int),()),()))
 |.c113 a b c=>mkI 113 (((),(),b,c,()),(a,((),(0:Int),(0:Int),(0:Int),(0:Int),(0:Int),()),()))
 |.c114 a b=>mkI 114 (((),(),b,()),(a,((),(0:Int),(0:Int),(0:Int),(0:Int),(0:Int),()),()))
 |.c115 a b=>mkI 115 ((a,b,()),())
 |.c116 a b=>mkI 116 ((a,(),(),()),(b,(x8.mk 0 0 0),()))
 |.c117 a=>mkI 117 ((a,()),())
 |.c118 a b=>mkI 118 ((a,b,()),())
 |.c119 a b c d=>mkI 119 ((a,b,d,c,()),())
 |.c120 a=>mkI 120 ((a,()),())
 |.c121 a b=>mkI 121 ((a,b,()),())
 |.c122 a b c d=>mkI 122 ((a,(w64 ((w64 (b+1))+c.Cs)),d,()),())
 |.c123 a b c=>mkI 123 (((w64 ((w64 (a+1))+b.Cs)),c,()),())
 |.c124 a=>mkI 124 ((a,()),())
 |.c125 a b=>mkI 125 ((a,b,()),())
 |.c126 a b=>mkI 126 ((a,b,()),())
 |.c127 a=>mkI 127 ((a,()),())
 |.c128 a=>mkI 128 ((a,()),())
 |.c129 a=>mkI 129 ((a,()),())
 |.c130 a=>mkI 130 (((),()),(a,()))
 |.c131 a=>mkI 131 (((),()),(a,()))
 |.c132 a=>mkI 132 ((a,()),())
 |.c133 a=>mkI 133 (((),()),(a,()))
 |.c134 a=>mkI 134 (((),()),(a,()))
 |.c135 a=>mkI 135 (((),()),(a,()))
 |.c136=>mkI 136 ((),())
 |.c137 a b=>mkI 137 ((a,b,()),())
 |.c138 a b c=>mkI 138 ((a,b,c,()),())
 |.c139=>mkI 139 ((),())
 |.c140 a b=>mkI 140 ((a,b,()),())
 |.c141 a b c d e=>mkI 141 ((a,b,c.1.1,e,(c.1.1.length:Int),d,()),())
 |.c142 a b c d=>mkI 142 ((a,b,c.1.1,d,()),())
 |.c143 a b c d=>mkI 143 ((a,b,(y6 c),(),()),(d,()))
 |.c144 a=>mkI 144 ((a,()),())
 |.c145 a b=>mkI 145 ((a,(a.length:Int),b,()),())
 |.c146=>mkI 146 ((),())
 |.c147 a=>mkI 147 ((a,()),())
 |.c148 a b=>mkI 148 ((a,b,()),())
 |.c149 a b c=>mkI 149 ((a,(),(b.P.As.length:Int),c,()),(b,()))
 |.c150=>mkI 150 ((),())
 |.c151 a b=>mkI 151 ((a,b,()),())
 |.c152 a b c d e=>mkI 152 ((a,b,e,c.1.1,(c.1.1.length:Int),d,()),())
 |.c153 a=>mkI 153 ((a,()),())
 |.c154 a b c=>mkI 154 ((a,b,c,()),())
 |.c155 a b c d=>mkI 155 ((a,b,c,(b.length:Int),d,()),())
 |.c156=>mkI 156 ((),())
 |.c157 a=>mkI 157 ((a,()),())
 |.c158 a b c=>mkI 158 ((a,c,b,()),())
 |.c159 a=>mkI 159 ((a,()),())
 |.c160 a b c=>mkI 160 (((a.P.No,a.P.Ms,a.P.To,a.P.Rs,a.P.Hs,a.P.As,a.P.Ss,a.P.Vars,a.P.Ps,a.Rs,a.F.Code,a.F.Ls,a.F.Id,()),b,c,()),())
 |.c161 a b=>mkI 161 ((a,b,()),())
 |.c162 a b c d=>mkI 162 ((a,b,d,(a.length:Int),c,()),())
 |.c163 a b c=>mkI 163 ((a,b,c,()),())
 |.c164 a=>mkI 164 ((a,()),())
 |.c165 a b c=>mkI 165 ((a,b,c,()),())
 |.c166 a b c d=>mkI 166 ((a,b,(),(b.length:Int),c,()),(d,()))
 |.c167=>mkI 167 ((),())
 |.c168 a b c=>mkI 168 ((a,b,c,()),())
 |.c169 a b c d=>mkI 169 ((d,(w64 ((a.length:Int)-1)),b,c,()),())
 |.c170 a b=>mkI 170 ((b,a,()),())
 |.c171 a b c=>mkI 171 (((a.P.No,a.P.Ms,a.P.To,a.P.Rs,a.P.Hs,a.P.As,a.P.Ss,a.P.Vars,a.P.Ps,a.Rs,a.F.Code,a.F.Ls,a.F.Id,()),b,c,()),())
 |.c172 a b c=>mkI 172 (((a.P.No,a.P.Ms,a.P.To,a.P.Rs,a.P.Hs,a.P.As,a.P.Ss,a.P.Vars,a.P.Ps,a.Rs,a.F.Code,a.F.Ls,a.F.Id,()),b,c,()),())
 |.c173 a b=>mkI 173 (((a.P.No,a.P.Ms,a.P.To,a.P.Rs,a.P.Hs,a.P.As,a.P.Ss,a.P.Vars,a.P.Ps,a.Rs,a.F.Code,a.F.Ls,a.F.Id,()),b,()),())
 |.c174 a b c=>mkI 174 (((a.P.No,a.P.Ms,a.P.To,a.P.Rs,a.P.Hs,a.P.As,a.P.Ss,a.P.Vars,a.P.Ps,a.Rs,a.F.Code,a.F.Ls,a.F.Id,()),b,c,()),())
 |.c175 a=>mkI 175 (((a.P.No,a.P.Ms,a.P.To,a.P.Rs,a.P.Hs,a.P.As,a.P.Ss,a.P.Vars,a.P.Ps,a.Rs,a.F.Code,a.F.Ls,a.F.Id,()),()),())
 |.c176 a b c d=>mkI 176 (((),(),a.P.No,b.1.1,(b.1.1.length:Int),c,()),(d,((),(),(),(),(),(),(),(),(),(),(0:Int),(0:Int),(0:Int),()),()))
 |.c177 a b c d=>mkI 177 (((),(),a.P.No,b.1.1,c,(b.1.1.length:Int),c,()),(d,((),(),(),(),(),(),(),(),(),(),(0:Int),(0:Int),(0:Int),()),()))
 |.c178 a b c d=>mkI 178 (((),(),a.P.No,b.1.1,c,(b.1.1.length:Int),c,()),(d,((),(),(),(),(),(),(),(),(),(),(0:Int),(0:Int),(0:Int),()),()))
 |.c179 a b c=>mkI 179 (((),(),a.P.No,b.1.1,()),(c,((),(),(),(),(),(),(),(),(),(),(0:Int),(0:Int),(0:Int),()),()))
 |.c180 a b c d e=>mkI 180 (((),(),a.P.No,b.1.1,(b.1.1.length:Int),c,()),((d8.mk d.1.1.P e d.1.1.F),((),(),(),(),(),(),(),(),(),(),(0:Int),(0:Int),(0:Int),()),()))
 |.c181 a b c d=>mkI 181 (((),(),a.P.No,b.1.1,(b.1.1.length:Int),c,()),(d,((),(),(),(),(),(),(),(),(),(),(0:Int),(0:Int),(0:Int),()),()))
 |.c182 a b c d e f h j=>mkI 182 (((),(),a.P.No,b.1.1,c,d.1.1,e,(b.1.1.length:Int),f,(d.1.1.length:Int),h,()),(j,((),(),(),(),(),(),(),(),(),(),(0:Int),(0:Int),(0:Int),()),()))
 |.c183 a=>mkI 183 (((),(),()),(a,((),(),(),(),(),(),(),(),(),(),(0:Int),(0:Int),(0:Int),()),()))
 |.c184 a b c d e f h j=>mkI 184 (((),(),a.P.No,b.1.1,c,d.1.1,e,f,(b.1.1.length:Int),h,(d.1.1.length:Int),f,()),(j,((),(),(),(),(),(),(),(),(),(),(0:Int),(0:Int),(0:Int),()),()))
 |.c185 a b c d e f h j=>mkI 185 (((),(),a.P.No,b.1.1,c,d.1.1,e,f,(b.1.1.length:Int),h,(d.1.1.length:Int),f,()),(j,((),(),(),(),(),(),(),(),(),(),(0:Int),(0:Int),(0:Int),()),()))
 |.c186 a b c d e f h=>mkI 186 (((),(),a.P.No,b.1.1,c,d.1.1,e,(b.1.1.length:Int),f,()),(h,((),(),(),(),(),(),(),(),(),(),(0:Int),(0:Int),(0:Int),()),()))
 |.c187 a b c d e f h j k=>mkI 187 (((),(),a.P.No,b.1.1,c,d.1.1,e,(b.1.1.length:Int),f,(d.1.1.length:Int),h,()),((d8.mk (l9.mk j.1.1.P.No j.1.1.P.Ms j.1.1.P.To j.1.1.P.Rs k j.1.1.P.As j.1.1.P.Ss j.1.1.P.Vars j.1.1.P.Ps) j.1.1.Rs j.1.1.F),((),(),(),(),(),(),(),(),(),(),(0:Int),(0:Int),(0:Int),()),()))
 |.c188 a b c d e=>mkI 188 (((),(),a.P.No,b.1.1,(b.1.1.length:Int),c,()),((d8.mk (l9.mk d.P.No d.P.Ms d.P.To e d.P.Hs d.P.As d.P.Ss d.P.Vars d.P.Ps) d.Rs d.F),((),(),(),(),(),(),(),(),(),(),(0:Int),(0:Int),(0:Int),()),()))
 |.c189 a=>mkI 189 ((a,()),())
 |.c190 a b=>mkI 190 ((a,([([]:b38),([108,101,110]:b38),([116,101,120,116]:b38),([114,101]:b38),([105,109]:b38),([112,97,105,114]:b38),([99,104,114]:b38),([114,101,97,100]:b38),([114,97,110,100]:b38)]:List (b38)),(([([]:b38),([108,101,110]:b38),([116,101,120,116]:b38),([114,101]:b38),([105,109]:b38),([112,97,105,114]:b38),([99,104,114]:b38),([114,101,97,100]:b38),([114,97,110,100]:b38)]:List (b38)).length:Int),b,()),())
 |.c191=>mkI 191 ((),())
 |.c192 a b c=>mkI 192 (((a.P.No,a.P.Ms,a.P.To,a.P.Rs,a.P.Hs,a.P.As,a.P.Ss,a.P.Vars,a.P.Ps,a.Rs,a.F.Code,a.F.Ls,a.F.Id,()),b,c,()),())
 |.c193 a b c=>mkI 193 (((a.P.No,a.P.Ms,a.P.To,a.P.Rs,a.P.Hs,a.P.As,a.P.Ss,a.P.Vars,a.P.Ps,a.Rs,a.F.Code,a.F.Ls,a.F.Id,()),b,c,()),())
 |.c194 a b=>mkI 194 (((a.P.No,a.P.Ms,a.P.To,a.P.Rs,a.P.Hs,a.P.As,a.P.Ss,a.P.Vars,a.P.Ps,a.Rs,a.F.Code,a.F.Ls,a.F.Id,()),b,()),())
 |.c195 a=>mkI 195 (((a.P.No,a.P.Ms,a.P.To,a.P.Rs,a.P.Hs,a.P.As,a.P.Ss,a.P.Vars,a.P.Ps,a.Rs,a.F.Code,a.F.Ls,a.F.Id,()),()),())
 |.c196 a b c d=>mkI 196 (((),(),a.P.No,b.1.1,(b.1.1.length:Int),c,()),(d,((),(),(),(),(),(),(),(),(),(),(0:Int),(0:Int),(0:Int),()),()))
 |.c197 a b c d e f h j=>mkI 197 (((),(),a.P.No,b.1.1,c,d,e.1.1,(w64 ((e.1.1.length:Int)-2)),f,(b.1.1.length:Int),h,()),(j,((),(),(),(),(),(),(),(),(),(),(0:Int),(0:Int),(0:Int),()),()))
 |.c198 a b c d e f=>mkI 198 (((),(),a.P.No,b.1.1,c,d,(b.1.1.length:Int),e,()),(f,((),(),(),(),(),(),(),(),(),(),(0:Int),(0:Int),(0:Int),()),()))
 |.c199 a=>mkI 199 (((),(),()),(a,((),(),(),(),(),(),(),(),(),(),(0:Int),(0:Int),(0:Int),()),()))
 |.c200 a b c d e f h j=>mkI 200 (((),(),a.P.No,b.1.1,c,d,e.1.1,(w64 ((e.1.1.length:Int)-2)),f,(b.1.1.length:Int),h,()),(j,((),(),(),(),(),(),(),(),(),(),(0:Int),(0:Int),(0:Int),()),()))
 |.c201 a b c d e f h j=>mkI 201 (((),(),a.P.No,b.1.1,c,d,e.1.1,(w64 ((e.1.1.length:Int)-2)),f,(b.1.1.length:Int),h,()),(j,((),(),(),(),(),(),(),(),(),(),(0:Int),(0:Int),(0:Int),()),()))
 |.c202 a b c d e f h=>mkI 202 (((),(),a.P.No,b.1.1,c,d,e.1.1,(w64 ((e.1.1.length:Int)-2)),(b.1.1.length:Int),f,()),(h,((),(),(),(),(),(),(),(),(),(),(0:Int),(0:Int),(0:Int),()),()))
 |.c203 a b c d e f=>mkI 203 (((),(),a.P.No,b.1.1,c,d,(b.1.1.length:Int),e,()),(f,((),(),(),(),(),(),(),(),(),(),(0:Int),(0:Int),(0:Int),()),()))
 |.c204 a b c d e f h j=>mkI 204 (((),(),a.P.No,b.1.1,c,d,e.1.1,(w64 ((e.1.1.length:Int)-2)),f,(b.1.1.length:Int),h,()),(j.1.1,((),(),(),(),(),(),(),(),(),(),(0:Int),(0:Int),(0:Int),()),()))
 |.c205 a b c d e=>mkI 205 (((),(),a.P.No,b.1.1,(b.1.1.length:Int),c,()),((d8.mk (l9.mk d.1.1.P.No d.1.1.P.Ms d.1.1.P.To d.1.1.P.Rs d.1.1.P.Hs e d.1.1.P.Ss d.1.1.P.Vars d.1.1.P.Ps) d.1.1.Rs d.1.1.F),((),(),(),(),(),(),(),(),(),(),(0:Int),(0:Int),(0:Int),()),()))
 |.c206 a b c d e=>mkI 206 (((),(),a.P.No,b.1.1,c,d,(b.1.1.length:Int),c,()),(e,((),(),(),(),(),(),(),(),(),(),(0:Int),(0:Int),(0:Int),()),()))
 |.c207 a b c d e f h=>mkI 207 (((a.P.No,a.P.Ms,a.P.To,a.P.Rs,a.P.Hs,a.P.As,a.P.Ss,a.P.Vars,a.P.Ps,a.Rs,a.F.Code,a.F.Ls,a.F.Id,()),b,c,d,e,f,h,()),())
 |.c208 a b c=>mkI 208 (((a.P.No,a.P.Ms,a.P.To,a.P.Rs,a.P.Hs,a.P.As,a.P.Ss,a.P.Vars,a.P.Ps,a.Rs,a.F.Code,a.F.Ls,a.F.Id,()),b,c,()),())
 |.c209 a b c=>mkI 209 (((a.P.No,a.P.Ms,a.P.To,a.P.Rs,a.P.Hs,a.P.As,a.P.Ss,a.P.Vars,a.P.Ps,a.Rs,a.F.Code,a.F.Ls,a.F.Id,()),b,c,()),())
 |.c210 a b=>mkI 210 (((a.P.No,a.P.Ms,a.P.To,a.P.Rs,a.P.Hs,a.P.As,a.P.Ss,a.P.Vars,a.P.Ps,a.Rs,a.F.Code,a.F.Ls,a.F.Id,()),b,()),())
 |.c211 a b c d=>mkI 211 (((a.P.No,a.P.Ms,a.P.To,a.P.Rs,a.P.Hs,a.P.As,a.P.Ss,a.P.Vars,a.P.Ps,a.Rs,a.F.Code,a.F.Ls,a.F.Id,()),b,c,d,()),())
 |.c212 a b c d e=>mkI 212 ((a,b,c,(),(),d,()),(e,((),(),(),(),(),(),(),(),(),(),(0:Int),(0:Int),(0:Int),()),()))
 |.c213 a b c d e f h j=>mkI 213 ((a,b,c,(),(),d,(),e,(b.length:Int),f,()),(h,((),(),(),(),(),(),(),(),(),(),(0:Int),(0:Int),(0:Int),()),j,()))
 |.c214 a b c d e f=>mkI 214 ((a,b,c,(),(),d,e,()),(f,((),(),(),(),(),(),(),(),(),(),(0:Int),(0:Int),(0:Int),()),()))
 |.c215 a=>mkI 215 (((),(),()),(a,((),(),(),(),(),(),(),(),(),(),(0:Int),(0:Int),(0:Int),()),()))
 |.c216 a b c d e f=>mkI 216 ((a,b,c,(),(),d,e,()),(f,((),(),(),(),(),(),(),(),(),(),(0:Int),(0:Int),(0:Int),()),()))
 |.c217 a b c d e=>mkI 217 ((a,b,c,(),(),d,()),(e,((),(),(),(),(),(),(),(),(),(),(0:Int),(0:Int),(0:Int),()),()))
 |.c218 a b c d e=>mkI 218 (((a.P.No,a.P.Ms,a.P.To,a.P.Rs,a.P.Hs,a.P.As,a.P.Ss,a.P.Vars,a.P.Ps,a.Rs,a.F.Code,a.F.Ls,a.F.Id,()),b,c,d,e,()),())
 |.c219 a b c d e=>mkI 219 ((a,b,(),(),c.1.1,(c.1.1.length:Int),d,()),(e,((),(),(),(),(),(),(),(),(),(),(0:Int),(0:Int),(0:Int),()),()))
 |.c220 a b c d e f h j k=>mkI 220 ((a,b,c,d,(),(),(),(e.P.Ps.length:Int),f.1.1,(b.length:Int),h,()),(j,((),(),(),(),(),(),(),(),(),(),(0:Int),(0:Int),(0:Int),()),k,()))
 |.c221 a b c d e f h j=>mkI 221 ((a,b,c,d,(),(),(),(e.P.Ps.length:Int),f.1.1,()),(h,((),(),(),(),(),(),(),(),(),(),(0:Int),(0:Int),(0:Int),()),j,()))
 |.c222 a b=>mkI 222 ((a,(),(),()),(b,((),(),(),(),(),(),(),(),(),(),(0:Int),(0:Int),(0:Int),()),()))
 |.c223 a b c d e f h j=>mkI 223 ((a,b,c,d,(),(),(),(e.P.Ps.length:Int),f.1.1,()),(h,((),(),(),(),(),(),(),(),(),(),(0:Int),(0:Int),(0:Int),()),j,()))
 |.c224 a b c d e f h j=>mkI 224 ((a,b,c,d,(),(),(),(e.P.Ps.length:Int),f.1.1,()),(h,((),(),(),(),(),(),(),(),(),(),(0:Int),(0:Int),(0:Int),()),j,()))
 |.c225 a b c d=>mkI 225 (((a.P.No,a.P.Ms,a.P.To,a.P.Rs,a.P.Hs,a.P.As,a.P.Ss,a.P.Vars,a.P.Ps,a.Rs,a.F.Code,a.F.Ls,a.F.Id,()),b,c,d,()),())
 |.c226 a b c d e f=>mkI 226 ((a,b,c,(),(),d.1.1,(d.1.1.length:Int),e,()),(f,((),(),(),(),(),(),(),(),(),(),(0:Int),(0:Int),(0:Int),()),()))
 |.c227 a b c=>mkI 227 ((a,b,(),(),()),(c,((),(),(),(),(),(),(),(),(),(),(0:Int),(0:Int),(0:Int),()),()))
 |.c228 a b c d e=>mkI 228 ((a,b,(),(),e,(a.length:Int),c,()),(d,((),(),(),(),(),(),(),(),(),(),(0:Int),(0:Int),(0:Int),()),()))
 |.c229 a b=>mkI 229 (((),(),b,()),(a,((),(),(),(),(),(),(),(),(),(),(0:Int),(0:Int),(0:Int),()),()))
 |.c230 a b=>mkI 230 (((a.P.No,a.P.Ms,a.P.To,a.P.Rs,a.P.Hs,a.P.As,a.P.Ss,a.P.Vars,a.P.Ps,a.Rs,a.F.Code,a.F.Ls,a.F.Id,()),b,()),())
 |.c231 a b c d e=>mkI 231 ((a,(),(),b.1.1,(w64 ((b.1.1.length:Int)-2)),e,c,()),(d,((),(),(),(),(),(),(),(),(),(),(0:Int),(0:Int),(0:Int),()),()))
 |.c232 a b c d=>mkI 232 ((a,(),(),b.1.1,(w64 ((b.1.1.length:Int)-2)),d,()),(c,((),(),(),(),(),(),(),(),(),(),(0:Int),(0:Int),(0:Int),()),()))
 |.c233 a=>mkI 233 ((a,()),())
 |.c234 a b c=>mkI 234 (((),(),(),a,b,()),(((),(),(),(),(),(),(),(),(),()),(x8.mk 0 0 0),c,()))
 |.c235 a=>mkI 235 (((),(),(),()),(((),(),(),(),(),(),(),(),(),()),(x8.mk 0 0 0),a,()))
 |.c236 a b=>mkI 236 (((),(),(),a.1.1,()),(((),(),(),(),(),(),(),(),(),()),(x8.mk 0 0 0),b,()))
 |.c237 a=>mkI 237 (((),(),(),()),(((),(),(),(),(),(),(),(),(),()),(x8.mk 0 0 0),a,()))
 |.c238 a=>mkI 238 (((),(),(),()),(((),(),(),(),(),(),(),(),(),()),(x8.mk 0 0 0),a,()))
 |.c239 a b c=>mkI 239 ((a,b,c,()),())
 |.c240 a b c=>mkI 240 ((a,b,c,()),())
 |.c241 a b c=>mkI 241 ((a,b,c,()),())
 |.c242 a b c=>mkI 242 ((a,b,c,()),())
 |.c243 a=>mkI 243 ((a,()),())
 |.c244 a b=>mkI 244 ((a,b,()),())
 |.c245 a b c=>mkI 245 ((a,b,c,()),())
 |.c246 a b=>mkI 246 ((a,b,()),())
 |.c247 a b c d e=>mkI 247 ((a,(),(),b.1.1,e,(b.1.1.length:Int),c,()),(d,((),(),(),(),(),(),(),(),(),(),(),(),(0:Int),(0:Int),(0:Int),(0:Int),()),()))
 |.c248 a b c d=>mkI 248 ((a,(),(),c.1.1,d,()),(b,((),(),(),(),(),(),(),(),(),(),(),(),(0:Int),(0:Int),(0:Int),(0:Int),()),()))
 |.c249 a b c d e=>mkI 249 (((),(),b.1.1,e,a.1.1,a.1.2.1,(b.1.1.length:Int),c,()),(d,((),(),(),(),(),(),(),(),(),(),(),(),(0:Int),(0:Int),(0:Int),(0:Int),()),()))
 |.c250 a b c d e=>mkI 250 (((),(),a.1.1,e,(),(a.1.1.length:Int),b,()),(c,((),(),(),(),(),(),(),(),(),(),(),(),(0:Int),(0:Int),(0:Int),(0:Int),()),d,()))
 |.c251 a b=>mkI 251 (((),(),a.1.2.1,()),(b,((),(),(),(),(),(),(),(),(),(),(),(),(0:Int),(0:Int),(0:Int),(0:Int),()),()))
 |.c252 a b=>mkI 252 (((),(),(),()),(a,((),(),(),(),(),(),(),(),(),(),(),(),(0:Int),(0:Int),(0:Int),(0:Int),()),b,()))
 |.c253 a b c=>mkI 253 ((a,b,c,()),())
 |.c254 a b=>mkI 254 ((a,(),(),()),(b.1.2.1,((),(),(),(),(),(),(),(),(),(),(),(),(0:Int),(0:Int),(0:Int),(0:Int),()),()))
 |.c255 a b c d=>mkI 255 ((a,(),(),(),b,()),(c.1.2.1,((),(),(),(),(),(),(),(),(),(),(),(),(0:Int),(0:Int),(0:Int),(0:Int),()),d,()))
 |.c256 a b=>mkI 256 ((a,(),(),()),(b.1.2.1,((),(),(),(),(),(),(),(),(),(),(),(),(0:Int),(0:Int),(0:Int),(0:Int),()),()))
 |.c257 a b c d=>mkI 257 ((a,b,c,d,()),())
 |.c258 a b=>mkI 258 ((a,b,()),())
 |.c259 a b c d e=>mkI 259 ((a,b,(),c.1.1,d.1.1,()),(e,()))
 |.c260 a=>mkI 260 ((a,()),())
 |.c261 a b=>mkI 261 ((a,b,()),())
 |.c262=>mkI 262 ((),())
 |.c263 a b c=>mkI 263 ((a,b,c,()),())
 |.c264 a b=>mkI 264 ((a,b,()),())
 |.c265 a b c=>mkI 265 ((a,(),(),b,()),(c,((),(),(),(),(),(),(),(),(),(),(),(),(0:Int),(0:Int),(0:Int),(0:Int),()),()))
 |.c266 a b c d=>mkI 266 ((a,(),(),d.1.1,b,c.1.1,()),(c.1.2.1,((),(),(),(),(),(),(),(),(),(),(),(),(0:Int),(0:Int),(0:Int),(0:Int),()),()))
 |.c267 a b c d e=>mkI 267 ((a,(),(),e.1.1,b,c.1.1,d.1.1,()),(d.1.2.1,((),(),(),(),(),(),(),(),(),(),(),(),(0:Int),(0:Int),(0:Int),(0:Int),()),()))
 |.c268 a b c d e=>mkI 268 ((a,(),(),(),e.1.1,b.Ts,()),(c,((),(),(),(),(),(),(),(),(),(),(),(),(0:Int),(0:Int),(0:Int),(0:Int),()),d,()))
 |.c269 a b=>mkI 269 ((a,b,()),())
 |.c270 a b c d=>mkI 270 (((),d.1.1,a.1.1,(),b.1.1,()),(((),(),(),(),(),(),(),(),(),(),(),(),(0:Int),(0:Int),(0:Int),(0:Int),()),c,()))
 |.c271 a b c d=>mkI 271 (((),(),d.1.1,a,b,()),(c,((),(),(),(),(),(),(),(),(),(),(),(),(0:Int),(0:Int),(0:Int),(0:Int),()),()))
 |.c272 a b=>mkI 272 (((),(),b.1.1,()),(a,((),(),(),(),(),(),(),(),(),(),(),(),(0:Int),(0:Int),(0:Int),(0:Int),()),()))
 |.c273 a b=>mkI 273 (((),(),a,()),(b,((),(),(),(),(),(),(),(),(),(),(),(),(0:Int),(0:Int),(0:Int),(0:Int),()),()))
 |.c274 a b=>mkI 274 ((a,b,()),())
 |.c275 a b c d=>mkI 275 (((),(),b.1.1,a,(b.1.1.length:Int),c,()),(d,((),(),(),(),(),(),(),(),(),(),(),(),(0:Int),(0:Int),(0:Int),(0:Int),()),()))
 |.c276 a b=>mkI 276 (((),(),a,()),(b,((),(),(),(),(),(),(),(),(),(),(),(),(0:Int),(0:Int),(0:Int),(0:Int),()),()))
 |.c277 a=>mkI 277 ((a,()),())
 |.c278 a b c d=>mkI 278 ((a,(),(),(),(),(b.1.1.As.length:Int),c,()),(((),(),(),(),(),(),(),(),(),()),(x8.mk 0 0 0),b.1.1,d,()))
 |.c279 a b=>mkI 279 (((),(),(),(),()),(((),(),(),(),(),(),(),(),(),()),(x8.mk 0 0 0),a.1.1,b,()))
 |.c280 a=>mkI 280 ((a,()),())
 |.l16_source a=>mkI 281 ((a,()),())
 |.c282 a b=>mkI 282 (((),b,()),(a,()))
 |.c283 a b c d=>mkI 283 ((a,d,b.p_.No,c,()),(b,()))
 |.c284 a b=>mkI 284 ((b,()),(a,()))
 |.c285 a b c d=>mkI 285 (((),b,c,d,()),(a,()))
 |.c286 a=>mkI 286 ((a,()),())
 |.c287 a b=>mkI 287 (((),b,()),(a,()))
 |.c288 a b=>mkI 288 (((),b,()),(a,()))
 |.c289 a b c d=>mkI 289 (((),a,b,c,()),(d,()))
 |.c290 a b c=>mkI 290 (((),b,c,()),(a,()))
 |.c291 a b=>mkI 291 (((),b,()),(a,()))
 |.c292 a b c d e f h=>mkI 292 (((),a,(),(),b,c,d,()),(e,f,h,()))
 |.c293 a b c d=>mkI 293 (((),a,d.1.1,b,()),(c.2.1,()))
 |.c294 a b c=>mkI 294 (((),a,(),c.1.1,()),(b,c.2.1,()))
 |.c295 a b c d e=>mkI 295 (((),a,(),(),b,()),(c,d,e.2.1,()))
 |.c296 a b c d=>mkI 296 (((),a,(),(),()),(b,c,d,()))
 |.c297 a b c=>mkI 297 (((),b,c,()),(a,()))
 |.c298 a b c d e=>mkI 298 (((),a,b,c.1.1,(c.1.1.length:Int),d,()),(e,()))
 |.c299 a b c=>mkI 299 (((),a,b,()),(c,()))
 |.c300 a b=>mkI 300 (((),b,()),(a,()))
 |.c301 a b=>mkI 301 (((),a,()),(b,()))
 |.c302 a b=>mkI 302 (((),b,()),(a,()))
 |.c303 a b c=>mkI 303 (((),a.1.1,(a.1.1.length:Int),b,()),(c,()))
 |.c304 a=>mkI 304 ((a,()),())
 |.c305 a b c=>mkI 305 (((),(),a.As,(a.As.length:Int),b,()),(((),(),(),()),c,()))
 |.c306 a b c d e f=>mkI 306 (((),(),(),a.As,(a.As.length:Int),b,()),(((),(),(),()),(y7.mk c.2.1.from_ d.1.1 e.Es e.Ss f),c.2.1,()))
 |.c307 a=>mkI 307 (((),(),()),(((),(),(),()),a,()))
 |.c308 a b c d=>mkI 308 (((),(),a.As,(a.As.length:Int),b,()),(((),(),(),()),(u9.mk c.2.1.p_ (l7.mk c.2.1.c_.Is d c.2.1.c_.Js) c.2.1.from_ c.2.1.texts_),()))
 |.c309 a b=>mkI 309 ((a,b,()),())
 |.l16_awake=>mkI 310 ((),())
 |.c311 a b=>mkI 311 ((a,b,()),())
 |.c312 a b c=>mkI 312 ((a,(),b.As,(b.As.length:Int),c,()),(b,()))
 |.c313 a b c d e f=>mkI 313 ((a,(),b,c.As,(c.As.length:Int),d,(x6 c.Is e.At (w64 (e.At+e.If))),((x6 c.Is e.At (w64 (e.At+e.If))).length:Int),f,()),(c,()))
 |.c314=>mkI 314 ((),())
 |.c315 a b c=>mkI 315 ((a,(),b.As,(b.As.length:Int),c,()),(b,()))
 |.l16_GenPoints a=>mkI 316 ((a,()),())
 |.c317 a b c d=>mkI 317 (((),(),a,b,()),(c.1.1,d.1.1,()))
 |.c318 a b c d e f=>mkI 318 (((),(),a,b,(),c,()),(d.1.1,f.1.1,e,()))
 |.c319 a b c=>mkI 319 (((),(),a,()),(b.1.1,c.1.1,()))
 |.c320 a b c d=>mkI 320 (((),(),a,b,()),(c.1.1,d.1.1,()))
 |.c321 a b=>mkI 321 ((a,b,()),())
 |.c322 a b c d=>mkI 322 ((a,b,d,(a.length:Int),c,()),())
 |.c323 a b c d e f=>mkI 323 ((a,b,f,(),(a.length:Int),c,()),((i6.mk d.Op e d.Ls),()))
 |.c324 a=>mkI 324 ((a,()),())
 |.c325 a b c d=>mkI 325 ((a,b,d,(a.length:Int),c,()),())
 |.c326 a b=>mkI 326 ((a,b,()),())
 |.c327 a b c d=>mkI 327 ((a,b,c,d,()),())
 |.c328 a b=>mkI 328 ((a,b,()),())
 |.c329 a b c d=>mkI 329 ((a,(),(),d,(a.length:Int),b,()),(c,((),(),(),(),(),(),(),(),(),(),()),()))
 |.c330 a b=>mkI 330 (((),(),b,()),(a,((),(),(),(),(),(),(),(),(),(),()),()))
 |.c331 a b=>mkI 331 ((a,b,()),())
 |.c332 a b c=>mkI 332 (((),(),a.1.1,c,()),((B8.mk a.1.2.1.P b),((),(),(),(),(),(),(),(),(),(),()),()))
 |.c333 a b c d e=>mkI 333 ((a,(),(),(),c.1.1,b,(c.1.2.1.Js.length:Int),d,()),(c.1.2.1,((),(),(),(),(),(),(),(),(),(),()),e,()))
 |.c334 a b c d=>mkI 334 ((a,(),(),(),b,()),(c,((),(),(),(),(),(),(),(),(),(),()),d,()))
 |.c335 a b c d=>mkI 335 ((a,(),(),(),d.1.1,()),(b,((),(),(),(),(),(),(),(),(),(),()),c,()))
 |.c336 a b c d=>mkI 336 ((a,(),(),(),c.1.1,b,()),(c.1.2.1,((),(),(),(),(),(),(),(),(),(),()),d,()))
 |.c337 a b c d=>mkI 337 ((a,(),(),c.1.1,b,()),((B8.mk c.1.2.1.P d),((),(),(),(),(),(),(),(),(),(),()),()))
 |.c338 a b c d=>mkI 338 ((a,b,c,d,()),())
 |.c339 a b=>mkI 339 ((a,b,()),())
 |.c340 a b=>mkI 340 ((a,b,()),())
 |.c341 a b c d=>mkI 341 (((),(),d,a.1.1,(a.1.1.length:Int),b,()),(c,((),(),(),(),(),(),(),(),(),(),()),()))
 |.c342 a b=>mkI 342 (((),(),b,()),(a,((),(),(),(),(),(),(),(),(),(),()),()))
 |.c343 a=>mkI 343 ((a,()),())
 |.c344 a b c d e=>mkI 344 (((),(),(),(),(a.As.length:Int),b,()),(a,((),(),(),()),(d,e,(),()),c,()))
 |.c345 a b c d e f h j=>mkI 345 (((),(),(),(),e.1.1,(),(a.As.length:Int),b,()),(a,((),(),(),()),(d,j,(),()),c.1.2.1,(y7.mk (d.length:Int) (e.1.1.length:Int) f.Es f.Ss h),()))
 |.c346 a b c=>mkI 346 (((),(),(),()),(((),(),(),()),(b,c,(),()),a,()))
 |.c347 a b c d e=>mkI 347 (((),(),(),(),(a.As.length:Int),b,()),(a,((),(),(),()),(d,e,(),()),c.1.2.1,()))
 |.c348 a b=>mkI 348 ((a,b,()),())
 |.c349 a b c=>mkI 349 (((),(),(a.Is.length:Int),b,()),(a,c,()))
 |.c350 a b=>mkI 350 (((),(),()),(a,b,()))
 |.c351 a b c=>mkI 351 (((),(),(a.As.length:Int),b,()),(a,c,()))
 |.c352 a b=>mkI 352 (((),(),()),(a,b,()))
 |.c353 a b c=>mkI 353 (((),(),(a.Js.length:Int),b,()),(a,c,()))
 |.c354=>mkI 354 ((),())
theorem HZ(c:Q_C):Bx tab O3 (YF c)=Q_T c:=by cases c<;>kernel_rfl
noncomputable def mS(g:Gt tab O3)(c:Q_C):Option (Q_T c):=Xm (g (YF c)) (HZ c)
noncomputable def d5:(c:Q_C)→Option (Q_T c):=mS (G4 Q_B)
theorem ZD(c:Q_C):d5 c=mS (Q_B (G4 Q_B)) c:=IQ Q_q _ (HZ c)
abbrev Q_g:=(i:Q_C)→Option (Q_T i)
noncomputable section
def AR(g:Q_g)(a:(b38))(b:Int):Option RT2:=g (.c0 a b)
def Cd(g:Q_g)(a:(b38))(b:Int)(c:Bool):Option RT2:=g (.c1 a b c)
def bJ(g:Q_g)(a:(b38))(b:Int)(c:Bool)(d:UInt8):Option RT2:=g (.c2 a b c d)
def rJ(g:Q_g)(a:(b38))(b:Int)(c:Bool)(d:UInt8):Option RT2:=g (.c3 a b c d)
def IX(g:Q_g)(a:Int):Option RT2:=g (.c4 a)
def UH(g:Q_g)(a:(b38))(b:Int):b3Y:=g (.c5 a b)
def Pp(g:Q_g)(a:(b38))(b:Int)(c:Int)(d:Int)(e:Int):b3Y:=g (.c6 a b c d e)
def WA(g:Q_g)(a:Int)(b:Int):b3Y:=g (.c7 a b)
def Gj(g:Q_g)(a:Int):Option RT2:=g (.c8 a)
def Yh(g:Q_g)(a:Int):Option RT2:=g (.c9 a)
def So(g:Q_g)(a:Int):Option RT2:=g (.c10 a)
abbrev rS(g:Q_g):Option RT2:=g (.c11)
def wE(g:Q_g)(a:(b38))(b:Int):Option RT2:=g (.c12 a b)
def iO(g:Q_g)(a:(b38))(b:Int):Option RT2:=g (.c13 a b)
def BH(g:Q_g)(a:Int):Option RT2:=g (.c14 a)
def CA(g:Q_g)(a:(b38)):Option RT0:=g (.c15 a)
def jN(g:Q_g)(a:(b38))(b:Int):Option RT0:=g (.c16 a b)
abbrev FY(g:Q_g):Option RT0:=g (.c17)
def YQ(g:Q_g)(a:I3):Option RT8:=g (.c18 a)
def OR(g:Q_g)(a:Int):Option RT8:=g (.c19 a)
def MG(g:Q_g)(a:I3):Option RT2:=g (.c20 a)
def BV(g:Q_g)(a:(b38)):b3Y:=g (.c21 a)
def Yr(g:Q_g)(a:(b38))(b:(b38))(c:Int):b3Y:=g (.c22 a b c)
def Zn(g:Q_g)(a:(b38))(b:(b38)):b3Y:=g (.c23 a b)
def Qe(g:Q_g)(a:(b38))(b:(b38)):b3Y:=g (.c24 a b)
def zL(g:Q_g)(a:(b38))(b:(b38)):b3Y:=g (.c25 a b)
def mV(g:Q_g)(a:(b38))(b:(b38))(c:Int)(d:Int):b3Y:=g (.c26 a b c d)
def nU(g:Q_g)(a:(b38))(b:(b38)):b3Y:=g (.c27 a b)
def jP(g:Q_g)(a:(b38))(b:(b38))(c:(b38)):b3Y:=g (.c28 a b c)
def OD(g:Q_g)(a:(b38))(b:(b38))(c:Int):b3Y:=g (.c29 a b c)
def UT(g:Q_g)(a:(b38))(b:Int):b31:=g (.c30 a b)
def jI(g:Q_g)(a:(b38))(b:Int)(c:Int):b31:=g (.c31 a b c)
def kG(g:Q_g)(a:(b38))(b:Int)(c:Int):b31:=g (.c32 a b c)
def Zz(g:Q_g)(a:(b38))(b:Int)(c:Int)(d:RT2)(e:Int)(f:Int):b31:=g (.c33 a b c d e f)
def aL(g:Q_g)(a:(b38))(b:Int)(c:Int)(d:RT2)(e:Int)(f:Int):b31:=g (.c34 a b c d e f)
def qF(g:Q_g)(a:(b38))(b:Int)(c:Int)(d:RT2):b31:=g (.c35 a b c d)
def jZ(g:Q_g)(a:(b38))(b:Int)(c:Int)(d:RT2)(e:Int)(f:Int):b31:=g (.c36 a b c d e f)
def Uc(g:Q_g)(a:Int):Option RT2:=g (.c37 a)
def eW(g:Q_g)(a:Int):Option RT2:=g (.c38 a)
def lO(g:Q_g)(a:Int):Option RT2:=g (.c39 a)
abbrev jE(g:Q_g):Option RT2:=g (.c40)
def EV(g:Q_g)(a:(b38)):b35:=g (.c41 a)
def qL(g:Q_g)(a:(b38))(b:Int)(c:(List Int)):b35:=g (.c42 a b c)
def aV(g:Q_g)(a:(b38))(b:Int)(c:(List Int)):b35:=g (.c43 a b c)
def wJ(g:Q_g)(a:(b38))(b:Int)(c:Int)(d:(List Int)):b35:=g (.c44 a b c d)
def VW(g:Q_g)(a:(b38)):b35:=g (.c45 a)
def Jb(g:Q_g)(a:(b38))(b:Int)(c:(List Int)):b35:=g (.c46 a b c)
def XJ(g:Q_g)(a:(b38))(b:Int)(c:(List Int)):b35:=g (.c47 a b c)
def Xy(g:Q_g)(a:(b38))(b:Int):b31:=g (.c48 a b)
def Zb(g:Q_g)(a:(b38))(b:Int):b31:=g (.c49 a b)
def Ry(g:Q_g)(a:(b38))(b:Int)(c:Int):b31:=g (.c50 a b c)
def TQ(g:Q_g)(a:(b38))(b:Int):b31:=g (.c51 a b)
def nW(g:Q_g)(a:(b38))(b:Int)(c:Int):b31:=g (.c52 a b c)
abbrev LE(g:Q_g):b31:=g (.c53)
def sL(g:Q_g)(a:(b38)):Option Iw:=g (.c54 a)
def sO(g:Q_g)(a:(b38))(b:Int)(c:Int)(d:Int)(e:Int)(f:(List l5)):Option Iw:=g (.c55 a b c d e f)
def hD(g:Q_g)(a:(b38))(b:Int)(c:Int)(d:Int)(e:(List l5)):Option Iw:=g (.c56 a b c d e)
def An(g:Q_g)(a:i5):Option RT0:=g (.c57 a)
def R6(g:Q_g)(a:i5):Option RT5:=g (.c58 a)
def E3(g:Q_g)(a:i5)(b:(b38)):Option RT0:=g (.c59 a b)
def F5(g:Q_g)(a:Int)(b:l5)(c:(b38))(d:Int)(e:(List d7)):Option Tc:=g (.c60 a b c d e)
def Cy(g:Q_g)(a:i5)(b:Int):Option RT6:=g (.c61 a b)
def I2(g:Q_g)(a:i5)(b:(b38)):Option RT6:=g (.c62 a b)
def Ew(g:Q_g)(a:i5)(b:Int):Option J6:=g (.c63 a b)
def rL(g:Q_g)(a:i5)(b:RT5):Option J6:=g (.c64 a b)
def Z7(g:Q_g)(a:i5)(b:(b38)):Option RT6:=g (.c65 a b)
def nA(g:Q_g)(a:(b38))(b:i5):Option RT6:=g (.c66 a b)
def Be(g:Q_g)(a:i5)(b:(b38)):Option RT6:=g (.c67 a b)
def Jo(g:Q_g)(a:i5):b3V:=g (.c68 a)
def lY(g:Q_g)(a:Int)(b:i5)(c:RT5):b3V:=g (.c69 a b c)
def AI(g:Q_g)(a:i5)(b:RT5):b3V:=g (.c70 a b)
def iJ(g:Q_g)(a:i5)(b:Int):b3V:=g (.c71 a b)
def CB(g:Q_g)(a:i5):b3V:=g (.c72 a)
def Yy(g:Q_g)(a:i5)(b:RT5)(c:J6)(d:(List d7)):b3V:=g (.c73 a b c d)
def mK(g:Q_g)(a:i5)(b:RT5)(c:J6)(d:(List d7)):b3V:=g (.c74 a b c d)
def Ao(g:Q_g)(a:(List d7))(b:(List d7)):Option Tc:=g (.c75 a b)
def GV(g:Q_g)(a:i5):b3V:=g (.c76 a)
def iC(g:Q_g)(a:Int)(b:i5)(c:(List d7)):b3V:=g (.c77 a b c)
def lC(g:Q_g)(a:Int)(b:i5)(c:(List d7)):b3V:=g (.c78 a b c)
def fH(g:Q_g)(a:i5)(b:(List d7)):b3V:=g (.c79 a b)
def AX(g:Q_g)(a:i5):b3V:=g (.c80 a)
def Mu(g:Q_g)(a:i5)(b:RT5):b3V:=g (.c81 a b)
def Pe(g:Q_g)(a:i5)(b:RT5):b3V:=g (.c82 a b)
def EL(g:Q_g)(a:i5):b3V:=g (.c83 a)
def UJ(g:Q_g)(a:i5):b3V:=g (.c84 a)
def Qj(g:Q_g)(a:(List d7))(b:i5):b3V:=g (.c85 a b)
def cJ(g:Q_g)(a:(List d7))(b:i5):b3V:=g (.c86 a b)
def uG(g:Q_g)(a:(List d7))(b:i5):b3V:=g (.c87 a b)
def Mx(g:Q_g)(a:i5):b3V:=g (.c88 a)
def nQ(g:Q_g)(a:i5)(b:RT5):b3V:=g (.c89 a b)
def yB(g:Q_g)(a:Int):Option U9:=g (.c90 a)
def K9(g:Q_g)(a:i5)(b:Int):b3V:=g (.c91 a b)
def mZ(g:Q_g)(a:Int)(b:(List d7))(c:Bool)(d:i5)(e:U9):b3V:=g (.c92 a b c d e)
def Ie(g:Q_g)(a:Int)(b:(List d7))(c:Bool)(d:U9)(e:Int)(f:i5):b3V:=g (.c93 a b c d e f)
def xD(g:Q_g)(a:Int)(b:(List d7))(c:Bool)(d:i5)(e:U9):b3V:=g (.c94 a b c d e)
def KK(g:Q_g)(a:(List d7))(b:i5):b3V:=g (.c95 a b)
def Lw(g:Q_g)(a:i5):b3V:=g (.c96 a)
def sZ(g:Q_g)(a:RT5)(b:i5)(c:(List d7)):b3V:=g (.c97 a b c)
def DF(g:Q_g)(a:(List d7))(b:RT5)(c:i5):b3V:=g (.c98 a b c)
def Tj(g:Q_g)(a:o4)(b:RT5):b3V:=g (.c99 a b)
def hH(g:Q_g)(a:o4)(b:RT5):b3V:=g (.c100 a b)
def Qi(g:Q_g)(a:o4)(b:i5)(c:RT5):b3V:=g (.c101 a b c)
def cA(g:Q_g)(a:o4)(b:d7)(c:RT5):b3V:=g (.c102 a b c)
def Fa(g:Q_g)(a:i5):b3V:=g (.c103 a)
def rU(g:Q_g)(a:i5)(b:RT5)(c:(List d7)):b3V:=g (.c104 a b c)
def qN(g:Q_g)(a:i5)(b:RT5)(c:(List d7)):b3V:=g (.c105 a b c)
def CZ(g:Q_g)(a:i5):b3V:=g (.c106 a)
def rH(g:Q_g)(a:Int)(b:i5)(c:RT5)(d:J6)(e:(List d7)):b3V:=g (.c107 a b c d e)
def Zg(g:Q_g)(a:Int)(b:i5)(c:RT5)(d:J6)(e:(List d7)):b3V:=g (.c108 a b c d e)
def Yp(g:Q_g)(a:Int)(b:i5)(c:RT5)(d:J6)(e:(List d7)):b3V:=g (.c109 a b c d e)
def fJ(g:Q_g)(a:Int)(b:i5)(c:RT5)(d:J6)(e:(List d7))(f:(List d7)):b3V:=g (.c110 a b c d e f)
def XX(g:Q_g)(a:i5):b3V:=g (.c111 a)
def iV(g:Q_g)(a:i5)(b:(List d7)):b3V:=g (.c112 a b)
def Tu(g:Q_g)(a:i5)(b:(List d7))(c:(List d7)):b3V:=g (.c113 a b c)
def Yi(g:Q_g)(a:i5)(b:(List d7)):b3V:=g (.c114 a b)
def yC(g:Q_g)(a:(List d7))(b:i5):Option Jn:=g (.c115 a b)
def cZ(g:Q_g)(a:(List d7))(b:i5):Option Jn:=g (.c116 a b)
def nG(g:Q_g)(a:(b38)):Option Jn:=g (.c117 a)
def O4(g:Q_g)(a:(List d7))(b:Int):Option RT3:=g (.c118 a b)
def eR(g:Q_g)(a:(List d7))(b:Int)(c:Int)(d:(List Int)):Option RT3:=g (.c119 a b c d)
def FW(g:Q_g)(a:(List Int)):Option RT3:=g (.c120 a)
def Ou(g:Q_g)(a:(List d7))(b:Int):Option RT2:=g (.c121 a b)
def mJ(g:Q_g)(a:(List d7))(b:Int)(c:d7)(d:Int):Option RT2:=g (.c122 a b c d)
def tB(g:Q_g)(a:Int)(b:d7)(c:Int):Option RT2:=g (.c123 a b c)
def eH(g:Q_g)(a:(List d7)):Option RT0:=g (.c124 a)
def oR(g:Q_g)(a:(b38))(b:Int):Option RT0:=g (.c125 a b)
def Ye(g:Q_g)(a:(b38))(b:Int):Option RT0:=g (.c126 a b)
def xE(g:Q_g)(a:(b38)):Option RT0:=g (.c127 a)
def bB(g:Q_g)(a:(b38)):Option RT0:=g (.c128 a)
def CP(g:Q_g)(a:d7):Option RT0:=g (.c129 a)
def mQ(g:Q_g)(a:d7):Option RT0:=g (.c130 a)
def Gu(g:Q_g)(a:d7):Option RT0:=g (.c131 a)
def CE(g:Q_g)(a:d7):Option RT2:=g (.c132 a)
def nV(g:Q_g)(a:d7):Option RT2:=g (.c133 a)
def rK(g:Q_g)(a:d7):Option RT2:=g (.c134 a)
def kQ(g:Q_g)(a:d7):Option RT2:=g (.c135 a)
abbrev SR(g:Q_g):Option RT2:=g (.c136)
def Ll(g:Q_g)(a:(b38))(b:Int):Option RT0:=g (.c137 a b)
def Zx(g:Q_g)(a:(b38))(b:Int)(c:Int):Option RT0:=g (.c138 a b c)
abbrev QR(g:Q_g):Option RT0:=g (.c139)
def yX(g:Q_g)(a:(List d7))(b:Int):Option RT0:=g (.c140 a b)
def Wy(g:Q_g)(a:(List d7))(b:Int)(c:RT3)(d:Int)(e:(List Int)):Option RT0:=g (.c141 a b c d e)
def CO(g:Q_g)(a:(List d7))(b:Int)(c:RT3)(d:(List Int)):Option RT0:=g (.c142 a b c d)
def bF(g:Q_g)(a:(List d7))(b:Int)(c:(List Int))(d:d7):Option RT0:=g (.c143 a b c d)
def oB(g:Q_g)(a:(List d7)):Option RT0:=g (.c144 a)
def jB(g:Q_g)(a:(List d7))(b:Int):Option RT0:=g (.c145 a b)
abbrev GR(g:Q_g):Option RT0:=g (.c146)
def N1(g:Q_g)(a:d8):Option RT0:=g (.c147 a)
def rI(g:Q_g)(a:d8)(b:(b38)):Option RT2:=g (.c148 a b)
def oM(g:Q_g)(a:(b38))(b:d8)(c:Int):Option RT2:=g (.c149 a b c)
abbrev JD(g:Q_g):Option RT2:=g (.c150)
def aU(g:Q_g)(a:(List d7))(b:Int):Option RT3:=g (.c151 a b)
def Wz(g:Q_g)(a:(List d7))(b:Int)(c:RT3)(d:Int)(e:(List Int)):Option RT3:=g (.c152 a b c d e)
def SD(g:Q_g)(a:(List Int)):Option RT3:=g (.c153 a)
def Lx(g:Q_g)(a:(List d7))(b:(List Int))(c:(b38)):Option RT0:=g (.c154 a b c)
def Yn(g:Q_g)(a:(List d7))(b:(List Int))(c:(b38))(d:Int):Option RT0:=g (.c155 a b c d)
abbrev OJ(g:Q_g):Option RT0:=g (.c156)
def CU(g:Q_g)(a:Int):Option Kk:=g (.c157 a)
def aA(g:Q_g)(a:Int)(b:Int)(c:(List o0)):Option Kk:=g (.c158 a b c)
def tP(g:Q_g)(a:(List o0)):Option Kk:=g (.c159 a)
def Gf(g:Q_g)(a:d8)(b:Int)(c:i8):b3U:=g (.c160 a b c)
def Ji(g:Q_g)(a:(List o0))(b:Int):b37:=g (.c161 a b)
def Uw(g:Q_g)(a:(List o0))(b:Int)(c:Int)(d:(List o0)):b37:=g (.c162 a b c d)
def RZ(g:Q_g)(a:(List o0))(b:Int)(c:(List o0)):b37:=g (.c163 a b c)
def DD(g:Q_g)(a:(List d7)):Option RT0:=g (.c164 a)
def DC(g:Q_g)(a:(List o0))(b:(List (b38)))(c:d7):Option RT2:=g (.c165 a b c)
def nO(g:Q_g)(a:(List o0))(b:(List (b38)))(c:Int)(d:d7):Option RT2:=g (.c166 a b c d)
abbrev NC(g:Q_g):Option RT2:=g (.c167)
def Pr(g:Q_g)(a:(List o0))(b:(List (b38)))(c:(List d7)):b37:=g (.c168 a b c)
def vD(g:Q_g)(a:(List d7))(b:Int)(c:Int)(d:(List o0)):b37:=g (.c169 a b c d)
def UN(g:Q_g)(a:Int)(b:(List o0)):b37:=g (.c170 a b)
def Uz(g:Q_g)(a:d8)(b:Int)(c:i8):b3U:=g (.c171 a b c)
def Ux(g:Q_g)(a:d8)(b:Int)(c:Int):b3U:=g (.c172 a b c)
def pM(g:Q_g)(a:d8)(b:Int):Option N6:=g (.c173 a b)
def cV(g:Q_g)(a:d8)(b:Int)(c:Int):b3U:=g (.c174 a b c)
def AB(g:Q_g)(a:d8):b3U:=g (.c175 a)
def Rc(g:Q_g)(a:d8)(b:RT3)(c:Int)(d:d8):b3U:=g (.c176 a b c d)
def fZ(g:Q_g)(a:d8)(b:RT3)(c:Int)(d:d8):b3U:=g (.c177 a b c d)
def cG(g:Q_g)(a:d8)(b:RT3)(c:Int)(d:d8):b3U:=g (.c178 a b c d)
def Qf(g:Q_g)(a:d8)(b:RT3)(c:d8):b3U:=g (.c179 a b c)
def KF(g:Q_g)(a:d8)(b:RT3)(c:Int)(d:l8)(e:(List (b38))):b3U:=g (.c180 a b c d e)
def sB(g:Q_g)(a:d8)(b:RT3)(c:Int)(d:d8):b3U:=g (.c181 a b c d)
def Oz(g:Q_g)(a:d8)(b:RT3)(c:Int)(d:RT3)(e:Int)(f:Int)(h:Int)(j:d8):b3U:=g (.c182 a b c d e f h j)
def SM(g:Q_g)(a:d8):b3U:=g (.c183 a)
def Se(g:Q_g)(a:d8)(b:RT3)(c:Int)(d:RT3)(e:Int)(f:Int)(h:Int)(j:d8):b3U:=g (.c184 a b c d e f h j)
def Xq(g:Q_g)(a:d8)(b:RT3)(c:Int)(d:RT3)(e:Int)(f:Int)(h:Int)(j:d8):b3U:=g (.c185 a b c d e f h j)
def Xo(g:Q_g)(a:d8)(b:RT3)(c:Int)(d:RT3)(e:Int)(f:Int)(h:d8):b3U:=g (.c186 a b c d e f h)
def GA(g:Q_g)(a:d8)(b:RT3)(c:Int)(d:RT3)(e:Int)(f:Int)(h:Int)(j:l8)(k:(List Q3)):b3U:=g (.c187 a b c d e f h j k)
def JL(g:Q_g)(a:d8)(b:RT3)(c:Int)(d:d8)(e:(List M9)):b3U:=g (.c188 a b c d e)
def kD(g:Q_g)(a:(b38)):Option RT2:=g (.c189 a)
def gE(g:Q_g)(a:(b38))(b:Int):Option RT2:=g (.c190 a b)
abbrev JN(g:Q_g):Option RT2:=g (.c191)
def Ol(g:Q_g)(a:d8)(b:Int)(c:i8):b3U:=g (.c192 a b c)
def Hd(g:Q_g)(a:d8)(b:Int)(c:Int):b3U:=g (.c193 a b c)
def Xw(g:Q_g)(a:d8)(b:Int):Option N6:=g (.c194 a b)
def uR(g:Q_g)(a:d8):b3U:=g (.c195 a)
def Vn(g:Q_g)(a:d8)(b:RT3)(c:Int)(d:d8):b3U:=g (.c196 a b c d)
def Lv(g:Q_g)(a:d8)(b:RT3)(c:Int)(d:Int)(e:RT3)(f:Int)(h:Int)(j:d8):b3U:=g (.c197 a b c d e f h j)
def pH(g:Q_g)(a:d8)(b:RT3)(c:Int)(d:Int)(e:Int)(f:d8):b3U:=g (.c198 a b c d e f)
def MC(g:Q_g)(a:d8):b3U:=g (.c199 a)
def Ru(g:Q_g)(a:d8)(b:RT3)(c:Int)(d:Int)(e:RT3)(f:Int)(h:Int)(j:d8):b3U:=g (.c200 a b c d e f h j)
def Wa(g:Q_g)(a:d8)(b:RT3)(c:Int)(d:Int)(e:RT3)(f:Int)(h:Int)(j:d8):b3U:=g (.c201 a b c d e f h j)
def Jf(g:Q_g)(a:d8)(b:RT3)(c:Int)(d:Int)(e:RT3)(f:Int)(h:d8):b3U:=g (.c202 a b c d e f h)
def nZ(g:Q_g)(a:d8)(b:RT3)(c:Int)(d:Int)(e:Int)(f:d8):b3U:=g (.c203 a b c d e f)
def MD(g:Q_g)(a:d8)(b:RT3)(c:Int)(d:Int)(e:RT3)(f:Int)(h:Int)(j:l8):b3U:=g (.c204 a b c d e f h j)
def XI(g:Q_g)(a:d8)(b:RT3)(c:Int)(d:l8)(e:(List t8)):b3U:=g (.c205 a b c d e)
def iP(g:Q_g)(a:d8)(b:RT3)(c:Int)(d:Int)(e:d8):b3U:=g (.c206 a b c d e)
def cM(g:Q_g)(a:d8)(b:Int)(c:(List v8))(d:(b38))(e:Int)(f:Int)(h:Int):b34:=g (.c207 a b c d e f h)
def Bd(g:Q_g)(a:d8)(b:Int)(c:Int):b3U:=g (.c208 a b c)
def Fb(g:Q_g)(a:d8)(b:Int)(c:i8):b3U:=g (.c209 a b c)
def Si(g:Q_g)(a:d8)(b:Int):Option N6:=g (.c210 a b)
def qS(g:Q_g)(a:d8)(b:Int)(c:(List v8))(d:Int):b3U:=g (.c211 a b c d)
def Iq(g:Q_g)(a:Int)(b:(List v8))(c:Int)(d:Int)(e:d8):b3U:=g (.c212 a b c d e)
def Po(g:Q_g)(a:Int)(b:(List v8))(c:Int)(d:Int)(e:Int)(f:Int)(h:d8)(j:d7):b3U:=g (.c213 a b c d e f h j)
def fN(g:Q_g)(a:Int)(b:(List v8))(c:Int)(d:Int)(e:Int)(f:d8):b3U:=g (.c214 a b c d e f)
def ME(g:Q_g)(a:d8):b3U:=g (.c215 a)
def ET(g:Q_g)(a:Int)(b:(List v8))(c:Int)(d:Int)(e:Int)(f:d8):b3U:=g (.c216 a b c d e f)
def Ly(g:Q_g)(a:Int)(b:(List v8))(c:Int)(d:Int)(e:d8):b3U:=g (.c217 a b c d e)
def DN(g:Q_g)(a:d8)(b:Int)(c:(List v8))(d:Int)(e:Int):b34:=g (.c218 a b c d e)
def Oh(g:Q_g)(a:Int)(b:(List v8))(c:RT3)(d:Int)(e:d8):b34:=g (.c219 a b c d e)
def Pw(g:Q_g)(a:Int)(b:(List v8))(c:Int)(d:Int)(e:d8)(f:N6)(h:Int)(j:d8)(k:d7):b34:=g (.c220 a b c d e f h j k)
def sH(g:Q_g)(a:Int)(b:(List v8))(c:Int)(d:Int)(e:d8)(f:N6)(h:d8)(j:d7):b34:=g (.c221 a b c d e f h j)
def OZ(g:Q_g)(a:(List v8))(b:d8):b34:=g (.c222 a b)
def wI(g:Q_g)(a:Int)(b:(List v8))(c:Int)(d:Int)(e:d8)(f:N6)(h:d8)(j:d7):b34:=g (.c223 a b c d e f h j)
def jQ(g:Q_g)(a:Int)(b:(List v8))(c:Int)(d:Int)(e:d8)(f:N6)(h:d8)(j:d7):b34:=g (.c224 a b c d e f h j)
def iF(g:Q_g)(a:d8)(b:Int)(c:(List v8))(d:Int):b3U:=g (.c225 a b c d)
def aQ(g:Q_g)(a:Int)(b:(List v8))(c:Int)(d:RT3)(e:Int)(f:d8):b3U:=g (.c226 a b c d e f)
def BG(g:Q_g)(a:(List v8))(b:Int)(c:d8):b3U:=g (.c227 a b c)
def Vj(g:Q_g)(a:(List v8))(b:Int)(c:Int)(d:d8)(e:(List J0)):b3U:=g (.c228 a b c d e)
def YP(g:Q_g)(a:d8)(b:(List J0)):b3U:=g (.c229 a b)
def uN(g:Q_g)(a:d8)(b:Int):b3U:=g (.c230 a b)
def Xt(g:Q_g)(a:Int)(b:RT3)(c:Int)(d:d8)(e:(List v8)):b3U:=g (.c231 a b c d e)
def yA(g:Q_g)(a:Int)(b:RT3)(c:d8)(d:(List v8)):b3U:=g (.c232 a b c d)
def wL(g:Q_g)(a:(List d7)):b32:=g (.c233 a)
def He(g:Q_g)(a:Int)(b:Int)(c:d8):b32:=g (.c234 a b c)
def Ka(g:Q_g)(a:d8):b32:=g (.c235 a)
def qP(g:Q_g)(a:RT2)(b:d8):b32:=g (.c236 a b)
def lJ(g:Q_g)(a:d8):b32:=g (.c237 a)
def Tm(g:Q_g)(a:d8):b32:=g (.c238 a)
def Eh(g:Q_g)(a:i9)(b:Int)(c:Int):Option RT4:=g (.c239 a b c)
def J5(g:Q_g)(a:i9)(b:Bool)(c:Int):Option RT4:=g (.c240 a b c)
def AY(g:Q_g)(a:(List o0))(b:Int)(c:Int):Option RT0:=g (.c241 a b c)
def Ae(g:Q_g)(a:i9)(b:Int)(c:Int):Option RT0:=g (.c242 a b c)
def CW(g:Q_g)(a:Int):Option Fm:=g (.c243 a)
def Lf(g:Q_g)(a:i9)(b:Int):Option RT2:=g (.c244 a b)
def wA(g:Q_g)(a:i9)(b:Int)(c:Int):Option RT0:=g (.c245 a b c)
def yT(g:Q_g)(a:i9)(b:Int):b3W:=g (.c246 a b)
def Xh(g:Q_g)(a:Int)(b:RT3)(c:Int)(d:i9)(e:(List Int)):b3W:=g (.c247 a b c d e)
def AD(g:Q_g)(a:Int)(b:i9)(c:RT3)(d:(List Int)):b3W:=g (.c248 a b c d)
def Vb(g:Q_g)(a:Fm)(b:RT3)(c:Int)(d:i9)(e:(List Int)):b3W:=g (.c249 a b c d e)
def Pz(g:Q_g)(a:RT3)(b:Int)(c:i9)(d:t8)(e:(List Int)):b3W:=g (.c250 a b c d e)
def DQ(g:Q_g)(a:Fm)(b:i9):b3W:=g (.c251 a b)
def xT(g:Q_g)(a:i9)(b:t8):b3W:=g (.c252 a b)
def GN(g:Q_g)(a:i9)(b:Int)(c:Int):b3W:=g (.c253 a b c)
def eG(g:Q_g)(a:Int)(b:A5):b3W:=g (.c254 a b)
def Tq(g:Q_g)(a:Int)(b:Int)(c:A5)(d:M9):b3W:=g (.c255 a b c d)
def NO(g:Q_g)(a:Int)(b:A5):b3W:=g (.c256 a b)
def xN(g:Q_g)(a:i9)(b:Int)(c:Int)(d:Int):Option RT2:=g (.c257 a b c d)
def pW(g:Q_g)(a:Int)(b:Int):Option RT2:=g (.c258 a b)
def bD(g:Q_g)(a:Int)(b:Int)(c:RT2)(d:RT2)(e:i9):Option RT2:=g (.c259 a b c d e)
def dI(g:Q_g)(a:Int):Option RT2:=g (.c260 a)
def dS(g:Q_g)(a:Int)(b:Int):Option RT2:=g (.c261 a b)
abbrev Gc(g:Q_g):Option RT2:=g (.c262)
def tV(g:Q_g)(a:i9)(b:Int)(c:Int):Option RT4:=g (.c263 a b c)
def Q8(g:Q_g)(a:i9)(b:Int):b3W:=g (.c264 a b)
def I9(g:Q_g)(a:Int)(b:Int)(c:i9):b3W:=g (.c265 a b c)
def bG(g:Q_g)(a:Int)(b:Int)(c:A5)(d:RT3):b3W:=g (.c266 a b c d)
def iK(g:Q_g)(a:Int)(b:Int)(c:A5)(d:A5)(e:RT3):b3W:=g (.c267 a b c d e)
def wC(g:Q_g)(a:Int)(b:i8)(c:i9)(d:d7)(e:RT3):b3W:=g (.c268 a b c d e)
def Hq(g:Q_g)(a:i9)(b:Int):b36:=g (.c269 a b)
def Mg(g:Q_g)(a:A5)(b:A5)(c:i9)(d:RT3):b36:=g (.c270 a b c d)
def Om(g:Q_g)(a:Bool)(b:Int)(c:i9)(d:RT3):b36:=g (.c271 a b c d)
def fT(g:Q_g)(a:i9)(b:RT3):b36:=g (.c272 a b)
def LM(g:Q_g)(a:Bool)(b:i9):b36:=g (.c273 a b)
def qI(g:Q_g)(a:i9)(b:Int):b36:=g (.c274 a b)
def sK(g:Q_g)(a:Bool)(b:RT3)(c:Int)(d:i9):b36:=g (.c275 a b c d)
def UZ(g:Q_g)(a:Bool)(b:i9):b36:=g (.c276 a b)
def EK(g:Q_g)(a:(List d7)):b32:=g (.c277 a)
def Hl(g:Q_g)(a:(List d7))(b:I7)(c:Int)(d:i9):b32:=g (.c278 a b c d)
def Zc(g:Q_g)(a:I7)(b:i9):b32:=g (.c279 a b)
def Zd(g:Q_g)(a:(b38)):b32:=g (.c280 a)
def zI(g:Q_g)(a:(b38)):Option V7:=g (.l16_source a)
def Jm(g:Q_g)(a:u9)(b:Int):Option N2:=g (.c282 a b)
def jS(g:Q_g)(a:Int)(b:u9)(c:Int)(d:(List Int)):Option N2:=g (.c283 a b c d)
def LN(g:Q_g)(a:u9)(b:(List Int)):Option N2:=g (.c284 a b)
def Q2(g:Q_g)(a:u9)(b:Int)(c:Int)(d:Int):Option RT1:=g (.c285 a b c d)
def AO(g:Q_g)(a:u9):Option RT2:=g (.c286 a)
def Ma(g:Q_g)(a:u9)(b:Int):b3Z:=g (.c287 a b)
def AA(g:Q_g)(a:u9)(b:(b38)):Option RT1:=g (.c288 a b)
def yU(g:Q_g)(a:(b38))(b:Int)(c:Bool)(d:u9):Option RT1:=g (.c289 a b c d)
def uE(g:Q_g)(a:u9)(b:d7)(c:i8):Option tD:=g (.c290 a b c)
def X1(g:Q_g)(a:u9)(b:Int):b3Z:=g (.c291 a b)
def Tp(g:Q_g)(a:Int)(b:(List Int))(c:Int)(d:Int)(e:d7)(f:i8)(h:u9):b3Z:=g (.c292 a b c d e f h)
def lZ(g:Q_g)(a:Int)(b:Int)(c:F7)(d:N2):b3Z:=g (.c293 a b c d)
def bU(g:Q_g)(a:Int)(b:d7)(c:N2):b3Z:=g (.c294 a b c)
def Qm(g:Q_g)(a:Int)(b:(List Int))(c:d7)(d:i8)(e:N2):b3Z:=g (.c295 a b c d e)
def EA(g:Q_g)(a:Int)(b:d7)(c:i8)(d:u9):b3Z:=g (.c296 a b c d)
def EQ(g:Q_g)(a:u9)(b:Int)(c:(List Int)):b3Z:=g (.c297 a b c)
def Tf(g:Q_g)(a:Int)(b:(List Int))(c:N2)(d:Int)(e:u9):b3Z:=g (.c298 a b c d e)
def BP(g:Q_g)(a:Int)(b:(List Int))(c:u9):b3Z:=g (.c299 a b c)
def tA(g:Q_g)(a:u9)(b:Int):b3Z:=g (.c300 a b)
def uH(g:Q_g)(a:Int)(b:u9):b3Z:=g (.c301 a b)
def Ml(g:Q_g)(a:u9)(b:Int):b3Z:=g (.c302 a b)
def mI(g:Q_g)(a:N2)(b:Int)(c:u9):b3Z:=g (.c303 a b c)
def fV(g:Q_g)(a:l9):b30:=g (.c304 a)
def Xu(g:Q_g)(a:l9)(b:Int)(c:u9):b30:=g (.c305 a b c)
def kM(g:Q_g)(a:l9)(b:Int)(c:RT1)(d:RT2)(e:t8)(f:Int):b30:=g (.c306 a b c d e f)
def Zy(g:Q_g)(a:u9):b30:=g (.c307 a)
def FH(g:Q_g)(a:l9)(b:Int)(c:RT1)(d:(List y7)):b30:=g (.c308 a b c d)
def b2v(g:Q_g)(a:l7)(b:Int):Option Rb:=g (.c309 a b)
abbrev vJ(g:Q_g):Option RT0:=g (.l16_awake)
def Mz(g:Q_g)(a:l7)(b:Int):b3Y:=g (.c311 a b)
def Lg(g:Q_g)(a:Int)(b:l7)(c:Int):b3Y:=g (.c312 a b c)
def Hx(g:Q_g)(a:Int)(b:Int)(c:l7)(d:Int)(e:y7)(f:Int):b3Y:=g (.c313 a b c d e f)
abbrev RK(g:Q_g):b3Y:=g (.c314)
def EO(g:Q_g)(a:Int)(b:l7)(c:Int):b3Y:=g (.c315 a b c)
def wF(g:Q_g)(a:(b38)):Option RT0:=g (.l16_GenPoints a)
def lI(g:Q_g)(a:Int)(b:Int)(c:V7)(d:G2):Option RT0:=g (.c317 a b c d)
def Ot(g:Q_g)(a:Int)(b:Int)(c:Int)(d:V7)(e:y7)(f:G2):Option RT0:=g (.c318 a b c d e f)
def OX(g:Q_g)(a:Int)(b:V7)(c:G2):Option RT0:=g (.c319 a b c)
def xI(g:Q_g)(a:Int)(b:Int)(c:V7)(d:G2):Option RT0:=g (.c320 a b c d)
def BO(g:Q_g)(a:(List i6))(b:Int):b33:=g (.c321 a b)
def iD(g:Q_g)(a:(List i6))(b:Int)(c:Int)(d:(List i6)):b33:=g (.c322 a b c d)
def Sk(g:Q_g)(a:(List i6))(b:Int)(c:Int)(d:i6)(e:Int)(f:(List i6)):b33:=g (.c323 a b c d e f)
def UL(g:Q_g)(a:(List i6)):b33:=g (.c324 a)
def NQ(g:Q_g)(a:(List i6))(b:Int)(c:Int)(d:(List i6)):b33:=g (.c325 a b c d)
def E8(g:Q_g)(a:(List i6))(b:(List i6)):b33:=g (.c326 a b)
def H4(g:Q_g)(a:B8)(b:Int)(c:Int)(d:Int):b33:=g (.c327 a b c d)
def RJ(g:Q_g)(a:B8)(b:(List Int)):b3X:=g (.c328 a b)
def NN(g:Q_g)(a:(List Int))(b:Int)(c:B8)(d:(List i6)):b3X:=g (.c329 a b c d)
def b1S(g:Q_g)(a:B8)(b:(List i6)):b3X:=g (.c330 a b)
def Cc(g:Q_g)(a:B8)(b:Int):b3X:=g (.c331 a b)
def W3(g:Q_g)(a:C2)(b:(List (b38)))(c:(List i6)):b3X:=g (.c332 a b c)
def uV(g:Q_g)(a:Int)(b:Int)(c:C2)(d:Int)(e:d7):b3X:=g (.c333 a b c d e)
def TJ(g:Q_g)(a:Int)(b:(List Int))(c:B8)(d:d7):b3X:=g (.c334 a b c d)
def RR(g:Q_g)(a:Int)(b:B8)(c:d7)(d:RT3):b3X:=g (.c335 a b c d)
def a1o(g:Q_g)(a:Int)(b:Int)(c:C2)(d:d7):b3X:=g (.c336 a b c d)
def TX(g:Q_g)(a:Int)(b:Int)(c:C2)(d:(List (b38))):b3X:=g (.c337 a b c d)
def a6W(g:Q_g)(a:B8)(b:Int)(c:(List Int))(d:(List i6)):b3X:=g (.c338 a b c d)
def a4g(g:Q_g)(a:B8)(b:Int):b3X:=g (.c339 a b)
def qH(g:Q_g)(a:B8)(b:Int):b3X:=g (.c340 a b)
def LK(g:Q_g)(a:RT3)(b:Int)(c:B8)(d:(List i6)):b3X:=g (.c341 a b c d)
def a2v(g:Q_g)(a:B8)(b:(List i6)):b3X:=g (.c342 a b)
def GY(g:Q_g)(a:l9)(b:Int)(c:B8)(d:(List i6))(e:(List y7)):b30:=g (.c344 a b c d e)
def JW(g:Q_g)(a:l9)(b:Int)(c:C2)(d:(List i6))(e:Q6)(f:t8)(h:Int)(j:(List y7)):b30:=g (.c345 a b c d e f h j)
def b2L(g:Q_g)(a:B8)(b:(List i6))(c:(List y7)):b30:=g (.c346 a b c)
def a4p(g:Q_g)(a:l9)(b:Int)(c:C2)(d:(List i6))(e:(List y7)):b30:=g (.c347 a b c d e)
def MO(g:Q_g)(a:l7)(b:Int)(c:l7):Option RT0:=g (.c349 a b c)
def a5Y(g:Q_g)(a:l7)(b:l7):Option RT0:=g (.c350 a b)
def YL(g:Q_g)(a:l7)(b:Int)(c:l7):Option RT0:=g (.c351 a b c)
def a2r(g:Q_g)(a:l7)(b:l7):Option RT0:=g (.c352 a b)
def TW(g:Q_g)(a:l7)(b:Int)(c:l7):Option RT0:=g (.c353 a b c)
abbrev a3I(g:Q_g):Option RT0:=g (.c354)
end
end
section
open Go.RowKit
set_option maxRecDepth 100000
set_option maxHeartbeats 4000000
noncomputable section
def Qb0(g:Q_g)(a:(b38))(b:Int):Option RT2:=
 Cd g a b false
def Qb1(g:Q_g)(a:(b38))(b:Int)(c:Bool):Option RT2:=
 (cond (decide (b<(a.length:Int))) ((f5 a b).bind fun d=>(cond (decide ((d.toNat:Int)=35)) (rJ g a b true d) (rJ g a b c d))) (IX g b))
def Qb2(g:Q_g)(a:(b38))(b:Int)(c:Bool)(d:UInt8):Option RT2:=
 (cond (!c) (cond (!(decide ((d.toNat:Int)=32))) (cond (!(decide ((d.toNat:Int)=9))) (cond (!(decide ((d.toNat:Int)=13))) (cond (!(decide ((d.toNat:Int)=10))) (some ((b,()),())) (Cd g a (w64 (b+1)) c)) (Cd g a (w64 (b+1)) c)) (Cd g a (w64 (b+1)) c)) (Cd g a (w64 (b+1)) c)) (Cd g a (w64 (b+1)) c))
def Qb3(g:Q_g)(a:(b38))(b:Int)(c:Bool)(d:UInt8):Option RT2:=
 (cond (decide ((d.toNat:Int)=10)) (bJ g a b false d) (bJ g a b c d))
def Qb4(g:Q_g)(a:Int):Option RT2:=
 (some ((a,()),()))
def Qb5(g:Q_g)(a:(b38))(b:Int):b3Y:=
 Pp g a b 1 1 0
def Qb6(g:Q_g)(a:(b38))(b:Int)(c:Int)(d:Int)(e:Int):b3Y:=
 (cond (decide (e<b)) ((f5 a e).bind fun f=>(cond (decide ((f.toNat:Int)=10)) (Pp g a b (w64 (c+1)) 1 (w64 (e+1))) (Pp g a b c (w64 (d+1)) (w64 (e+1))))) (WA g c d))
def Qb7(g:Q_g)(a:Int)(b:Int):b3Y:=
 (some ((a,b,()),()))
def Qb8(g:Q_g)(a:Int):Option RT2:=
 (cond (decide (a≥97)) (cond (decide (a≤122)) (some ((1,()),())) (cond (decide (a=95)) (some ((1,()),())) (So g a))) (cond (decide (a=95)) (some ((1,()),())) (So g a)))
def Qb9(g:Q_g)(a:Int):Option RT2:=
 (cond (decide (a≥48)) (cond (decide (a≤57)) (some ((3,()),())) (rS g)) (rS g))
def jT(g:Q_g)(a:Int):Option RT2:=
 (cond (decide (a≥65)) (cond (decide (a≤90)) (some ((2,()),())) (Yh g a)) (Yh g a))
def BE(g:Q_g):Option RT2:=
 (some ((0,()),()))
def Ra(g:Q_g)(a:(b38))(b:Int):Option RT2:=
 iO g a b
def Xj(g:Q_g)(a:(b38))(b:Int):Option RT2:=
 (cond (decide (b<(a.length:Int))) ((f5 a b).bind fun c=>((Gj g (c.toNat:Int)).bind fun d=>(cond (decide (d.1.1>0)) (iO g a (w64 (b+1))) (BH g b)))) (BH g b))
def Sg(g:Q_g)(a:Int):Option RT2:=
 (some ((a,()),()))
def dQ(g:Q_g)(a:(b38)):Option RT0:=
 jN g a 0
def Su(g:Q_g)(a:(b38))(b:Int):Option RT0:=
 (cond (decide (b<(([[114,101,99],[102,110],[118,97,114],[105,102],[101,108,115,101],[119,104,105,108,101],[114,101,116,117,114,110],[112,114,105,110,116],[116,114,117,101],[102,97,108,115,101],[110,105,108],[109,97,107,101],[105,110,116],[98,111,111,108],[115,116,114],[99,111,109,112]]:List (b38)).length:Int))) ((f5 ([[114,101,99],[102,110],[118,97,114],[105,102],[101,108,115,101],[119,104,105,108,101],[114,101,116,117,114,110],[112,114,105,110,116],[116,114,117,101],[102,97,108,115,101],[110,105,108],[109,97,107,101],[105,110,116],[98,111,111,108],[115,116,114],[99,111,109,112]]:List (b38)) b).bind fun c=>((([[114,101,99],[102,110],[118,97,114],[105,102],[101,108,115,101],[119,104,105,108,101],[114,101,116,117,114,110],[112,114,105,110,116],[116,114,117,101],[102,97,108,115,101],[110,105,108],[109,97,107,101],[105,110,116],[98,111,111,108],[115,116,114],[99,111,109,112]]:List (b38))[(Int.toNat b)]?).bind fun d=>(cond (decide (d=a)) (some ((true,()),())) (jN g a (w64 (b+1)))))) (FY g))
def fK(g:Q_g):Option RT0:=
 (some ((false,()),()))
def kU(g:Q_g)(a:I3):Option RT8:=
 (Rg a).bind fun r=>(some ((r,()),()):Option RT8)
def aW(g:Q_g)(a:Int):Option RT8:=
 (nE a).bind fun r=>(some ((r,()),()):Option RT8)
def bS(g:Q_g)(a:I3):Option RT2:=
 (Sa a).bind fun r=>(some ((r,()),()):Option RT2)
def dV(g:Q_g)(a:(b38)):b3Y:=
 (cond (decide ((a.length:Int)>0)) ((f5 a 0).bind fun b=>(cond (decide ((b.toNat:Int)=45)) ((okP (C8 1 (a.length:Int) (a.length:Int))).bind fun _=>Qe g a (x6 a 1 (a.length:Int))) (Qe g a a))) (Qe g a a))
def We(g:Q_g)(a:(b38))(b:(b38))(c:Int):b3Y:=
 (cond (decide (c<(b.length:Int))) ((f5 b c).bind fun d=>(cond (decide ((d.toNat:Int)<48)) (some ((0,2,()),())) ((f5 b c).bind fun e=>(cond (decide ((e.toNat:Int)>57)) (some ((0,2,()),())) (Yr g a b (w64 (c+1))))))) (zL g a b))
def qU(g:Q_g)(a:(b38))(b:(b38)):b3Y:=
 Yr g a b 0
def dW(g:Q_g)(a:(b38))(b:(b38)):b3Y:=
 (cond (decide ((b.length:Int)=0)) (some ((0,2,()),())) ((f5 b 0).bind fun c=>(cond (decide ((c.toNat:Int)=48)) (cond (decide ((a.length:Int)>1)) (some ((0,2,()),())) (Zn g a b)) (Zn g a b))))
def jU(g:Q_g)(a:(b38))(b:(b38)):b3Y:=
 (cond (decide ((a.length:Int)>(b.length:Int))) (jP g a b ([57,50,50,51,51,55,50,48,51,54,56,53,52,55,55,53,56,48,56]:b38)) (jP g a b ([57,50,50,51,51,55,50,48,51,54,56,53,52,55,55,53,56,48,55]:b38)))
def Ug(g:Q_g)(a:(b38))(b:(b38))(c:Int)(d:Int):b3Y:=
 (cond (decide (d<(b.length:Int))) ((f5 b d).bind fun e=>mV g a b (IntKind.wrap .u64 ((IntKind.wrap .u64 ((IntKind.wrap .u64 (c*10))+(IntKind.wrap .u64 (e.toNat:Int))))-48)) (w64 (d+1))) (OD g a b c))
def eZ(g:Q_g)(a:(b38))(b:(b38)):b3Y:=
 mV g a b 0 0
def qB(g:Q_g)(a:(b38))(b:(b38))(c:(b38)):b3Y:=
 (cond (decide ((b.length:Int)>(c.length:Int))) (some ((0,14,()),())) (cond (decide ((b.length:Int)=(c.length:Int))) (cond (!(Op.bytesLess b c||decide (b=c))) (some ((0,14,()),())) (nU g a b)) (nU g a b)))
def aZ(g:Q_g)(a:(b38))(b:(b38))(c:Int):b3Y:=
 (cond (decide ((a.length:Int)>(b.length:Int))) ((OR g (w64 c)).bind fun d=>((YQ g d.1.1).bind fun e=>((MG g e.1.1).bind fun f=>(some ((f.1.1,0,()),()))))) (some (((w64 c),0,()),())))
def aT(g:Q_g)(a:(b38))(b:Int):b31:=
 jI g a b b
def Ui(g:Q_g)(a:(b38))(b:Int)(c:Int):b31:=
 (cond (decide (c<(a.length:Int))) ((f5 a c).bind fun d=>((Gj g (d.toNat:Int)).bind fun e=>(cond (decide (e.1.1=3)) (jI g a b (w64 (c+1))) (kG g a b c)))) (kG g a b c))
def kW(g:Q_g)(a:(b38))(b:Int)(c:Int):b31:=
 ((wE g a c).bind fun d=>(cond (decide (d.1.1=(w64 (c+1)))) ((f5 a c).bind fun e=>(cond (decide ((e.toNat:Int)=105)) (aL g a b c d 8388607 4) (qF g a b c d))) (qF g a b c d)))
def Rx(g:Q_g)(a:(b38))(b:Int)(c:Int)(d:RT2)(e:Int)(f:Int):b31:=
 (cond (decide (b<(w64 (c-1)))) ((f5 a b).bind fun h=>(cond (decide ((h.toNat:Int)=48)) (Zz g a (w64 (b+1)) c d e f) (jZ g a b c d e f))) (jZ g a b c d e f))
def bR(g:Q_g)(a:(b38))(b:Int)(c:Int)(d:RT2)(e:Int)(f:Int):b31:=
 Zz g a b c d e f
def oP(g:Q_g)(a:(b38))(b:Int)(c:Int)(d:RT2):b31:=
 (cond (!(decide (d.1.1=c))) (some (((l5.mk 3 0 0 0 ([]:b38)),0,4,()),())) (aL g a b c d 9223372036854775807 3))
def aH(g:Q_g)(a:(b38))(b:Int)(c:Int)(d:RT2)(e:Int)(f:Int):b31:=
 ((okP (C8 b c (a.length:Int))).bind fun _=>((BV g (x6 a b c)).bind fun h=>(cond (!(decide (h.1.2.1=0))) (some (((l5.mk f 0 0 0 ([]:b38)),0,14,()),())) (cond (decide (h.1.1>e)) (some (((l5.mk f 0 0 0 ([]:b38)),0,14,()),())) (some (((l5.mk f 0 0 h.1.1 ([]:b38)),d.1.1,0,()),()))))))
def mP(g:Q_g)(a:Int):Option RT2:=
 (cond (decide (a≥48)) (cond (decide (a≤57)) (some (((w64 ((w64 a)-48)),()),())) (lO g a)) (lO g a))
def gS(g:Q_g)(a:Int):Option RT2:=
 (cond (decide (a≥65)) (cond (decide (a≤70)) (some (((w64 ((w64 a)-55)),()),())) (jE g)) (jE g))
def fI(g:Q_g)(a:Int):Option RT2:=
 (cond (decide (a≥97)) (cond (decide (a≤102)) (some (((w64 ((w64 a)-87)),()),())) (eW g a)) (eW g a))
def yK(g:Q_g):Option RT2:=
 (some (((-1),()),()))
def cB(g:Q_g)(a:(b38)):b35:=
 (cond (decide ((a.length:Int)=0)) (some ((([]:b38),0,false,()),())) ((f5 a 0).bind fun b=>(cond (!(decide ((b.toNat:Int)=34))) (some ((([]:b38),0,false,()),())) (qL g a 1 ([]:List Int)))))
def lP(g:Q_g)(a:(b38))(b:Int)(c:(List Int)):b35:=
 (cond (decide (b<(a.length:Int))) ((f5 a b).bind fun d=>(cond (decide ((d.toNat:Int)<32)) (some ((([]:b38),b,false,()),())) (cond (decide ((d.toNat:Int)>126)) (some ((([]:b38),b,false,()),())) (cond (decide ((d.toNat:Int)=34)) ((Ql c).bind fun _=>(some (((y6 c),(w64 (b+1)),true,()),()))) (cond (!(decide ((d.toNat:Int)=92))) ((y8 1 c ([(d.toNat:Int)]:List Int)).bind fun e=>Jb g a b e) (cond (decide ((w64 (b+1))≥(a.length:Int))) (some ((([]:b38),(w64 (b+1)),false,()),())) ((f5 a (w64 (b+1))).bind fun f=>(cond (decide ((f.toNat:Int)=34)) (aV g a b c) (cond (decide ((f.toNat:Int)=92)) (aV g a b c) (cond (decide ((f.toNat:Int)=110)) ((y8 1 c ([10]:List Int)).bind fun h=>Jb g a (w64 (b+1)) h) (cond (decide ((f.toNat:Int)=116)) ((y8 1 c ([9]:List Int)).bind fun j=>Jb g a (w64 (b+1)) j) (cond (decide ((f.toNat:Int)=120)) (wJ g a b 1 c) (some ((([]:b38),(w64 (b+1)),false,()),())))))))))))))) (VW g a))
def pV(g:Q_g)(a:(b38))(b:Int)(c:(List Int)):b35:=
 ((f5 a (w64 (b+1))).bind fun d=>((y8 1 c ([(d.toNat:Int)]:List Int)).bind fun e=>Jb g a (w64 (b+1)) e))
def Pc(g:Q_g)(a:(b38))(b:Int)(c:Int)(d:(List Int)):b35:=
 (cond (decide (c≤2)) (cond (decide ((w64 ((w64 (b+1))+c))≥(a.length:Int))) (some ((([]:b38),(w64 ((w64 (b+1))+c)),false,()),())) ((f5 a (w64 ((w64 (b+1))+c))).bind fun e=>((Uc g (e.toNat:Int)).bind fun f=>(cond (decide (f.1.1<0)) (some ((([]:b38),(w64 ((w64 (b+1))+c)),false,()),())) (wJ g a b (w64 (c+1)) d))))) (XJ g a b d))
def cY(g:Q_g)(a:(b38)):b35:=
 (some ((([]:b38),(a.length:Int),false,()),()))
def Yc(g:Q_g)(a:(b38))(b:Int)(c:(List Int)):b35:=
 qL g a (w64 (b+1)) c
def nF(g:Q_g)(a:(b38))(b:Int)(c:(List Int)):b35:=
 ((f5 a (w64 ((w64 (b+1))+1))).bind fun d=>((Uc g (d.toNat:Int)).bind fun e=>((f5 a (w64 ((w64 (b+1))+2))).bind fun f=>((Uc g (f.toNat:Int)).bind fun h=>((y8 1 c ([(IntKind.wrap .u8 (w64 ((w64 (e.1.1*16))+h.1.1)))]:List Int)).bind fun j=>Jb g a (w64 ((w64 (b+1))+2)) j)))))
def lM(g:Q_g)(a:(b38))(b:Int):b31:=
 ((f5 a b).bind fun c=>((Gj g (c.toNat:Int)).bind fun d=>(cond (decide (d.1.1=1)) (Zb g a b) (cond (decide (d.1.1=2)) (Zb g a b) (cond (decide (d.1.1=3)) ((UT g a b).bind fun e=>(some ((e.1.1,e.1.2.1,e.1.2.2.1,()),()))) ((f5 a b).bind fun f=>(cond (decide ((f.toNat:Int)=34)) ((okP (C8 b (a.length:Int) (a.length:Int))).bind fun _=>((EV g (x6 a b (a.length:Int))).bind fun h=>(cond (!h.1.2.2.1) (some (((l5.mk 0 0 0 0 ([]:b38)),0,4,()),())) (some (((l5.mk 5 0 0 0 h.1.1),(w64 (b+h.1.2.1)),0,()),()))))) (Ry g a b 0))))))))
def pU(g:Q_g)(a:(b38))(b:Int):b31:=
 ((wE g a b).bind fun c=>((okP (C8 b c.1.1 (a.length:Int))).bind fun _=>((f5 a b).bind fun d=>((Gj g (d.toNat:Int)).bind fun e=>(cond (decide (e.1.1=2)) (some (((l5.mk 2 0 0 0 (x6 a b c.1.1)),c.1.1,0,()),())) ((CA g (x6 a b c.1.1)).bind fun f=>(cond f.1.1 (some (((l5.mk 6 0 0 0 (x6 a b c.1.1)),c.1.1,0,()),())) (some (((l5.mk 1 0 0 0 (x6 a b c.1.1)),c.1.1,0,()),())))))))))
def Rm(g:Q_g)(a:(b38))(b:Int)(c:Int):b31:=
 (cond (decide (c<(([[38,38],[124,124],[61,61],[33,61],[60,61],[62,61]]:List (b38)).length:Int))) (cond (decide ((w64 (b+2))≤(a.length:Int))) ((okP (C8 b (w64 (b+2)) (a.length:Int))).bind fun _=>((f5 ([[38,38],[124,124],[61,61],[33,61],[60,61],[62,61]]:List (b38)) c).bind fun d=>((([[38,38],[124,124],[61,61],[33,61],[60,61],[62,61]]:List (b38))[(Int.toNat c)]?).bind fun e=>(cond (decide ((x6 a b (w64 (b+2)))=e)) ((f5 ([[38,38],[124,124],[61,61],[33,61],[60,61],[62,61]]:List (b38)) c).bind fun f=>((([[38,38],[124,124],[61,61],[33,61],[60,61],[62,61]]:List (b38))[(Int.toNat c)]?).bind fun h=>(some (((l5.mk 7 0 0 0 h),(w64 (b+2)),0,()),())))) (Ry g a b (w64 (c+1))))))) (Ry g a b (w64 (c+1)))) (TQ g a b))
def kT(g:Q_g)(a:(b38))(b:Int):b31:=
 nW g a b 0
def Qu(g:Q_g)(a:(b38))(b:Int)(c:Int):b31:=
 (cond (decide (c<(([43,45,42,47,37,60,62,33,61,40,41,123,125,91,93,44,59,58,46]:b38).length:Int))) ((f5 a b).bind fun d=>((f5 ([43,45,42,47,37,60,62,33,61,40,41,123,125,91,93,44,59,58,46]:b38) c).bind fun e=>(cond (decide ((d.toNat:Int)=(e.toNat:Int))) ((okP (C8 c (w64 (c+1)) (([43,45,42,47,37,60,62,33,61,40,41,123,125,91,93,44,59,58,46]:b38).length:Int))).bind fun _=>(some (((l5.mk 7 0 0 0 (x6 ([43,45,42,47,37,60,62,33,61,40,41,123,125,91,93,44,59,58,46]:b38) c (w64 (c+1)))),(w64 (b+1)),0,()),()))) (nW g a b (w64 (c+1)))))) (LE g))
def kK(g:Q_g):b31:=
 (some (((l5.mk 0 0 0 0 ([]:b38)),0,4,()),()))
def qZ(g:Q_g)(a:(b38)):Option Iw:=
 (cond (decide ((a.length:Int)>65536)) (some ((([]:List l5),(x8.mk 3 0 0),()),())) ((AR g a 0).bind fun b=>sO g a b.1.1 0 1 1 ([]:List l5)))
def dR(g:Q_g)(a:(b38))(b:Int)(c:Int)(d:Int)(e:Int)(f:(List l5)):Option Iw:=
 ((okP (C8 c (a.length:Int) (a.length:Int))).bind fun _=>((UH g (x6 a c (a.length:Int)) (w64 (b-c))).bind fun h=>(cond (decide (h.1.1>1)) (hD g a b (w64 (d+(w64 (h.1.1-1)))) h.1.2.1 f) (hD g a b d (w64 (e+(w64 (h.1.2.1-1)))) f))))
def Zt(g:Q_g)(a:(b38))(b:Int)(c:Int)(d:Int)(e:(List l5)):Option Iw:=
 (cond (decide (b≥(a.length:Int))) ((y8 48 e ([(l5.mk 8 c d 0 ([]:b38))]:List l5)).bind fun f=>(some ((f,(x8.mk 0 0 0),()),()))) ((Xy g a b).bind fun h=>(cond (!(decide (h.1.2.2.1=0))) (some ((([]:List l5),(x8.mk h.1.2.2.1 c d),()),())) ((y8 48 e ([(l5.mk h.1.1.Ks c d h.1.1.Ns h.1.1.Ds)]:List l5)).bind fun j=>((AR g a h.1.2.1).bind fun k=>sO g a k.1.1 b c d j)))))
def qW(g:Q_g)(a:i5):Option RT0:=
 (some (((!(decide (a.F.Code=0))),()),()))
def dG(g:Q_g)(a:i5):Option RT5:=
 ((f5 a.L a.I).bind fun b=>(some ((b,()),())))
def oI(g:Q_g)(a:i5)(b:(b38)):Option RT0:=
 ((R6 g a).bind fun c=>((An g a).bind fun d=>(cond (!d.1.1) (cond (decide (c.1.1.Ks=6)) (some (((decide (c.1.1.Ds=b)),()),())) (cond (decide (c.1.1.Ks=7)) (some (((decide (c.1.1.Ds=b)),()),())) (some ((false,()),())))) (some ((false,()),())))))
def qG(g:Q_g)(a:Int)(b:l5)(c:(b38))(d:Int)(e:(List d7)):Option Tc:=
 ((y8 56 ([(d7.mk a b.Ls b.Id (e.length:Int) d c)]:List d7) e).bind fun f=>(some ((f,()),())))
def jJ(g:Q_g)(a:i5)(b:Int):Option RT6:=
 ((An g a).bind fun c=>(cond (!c.1.1) ((R6 g a).bind fun d=>((R6 g a).bind fun e=>(some (((i5.mk a.L a.I a.On (x8.mk b d.1.1.Ls e.1.1.Id)),()),())))) (some ((a,()),()))))
def lA(g:Q_g)(a:i5)(b:(b38)):Option RT6:=
 ((E3 g a b).bind fun c=>(cond (!c.1.1) ((Cy g a 5).bind fun d=>(some ((d.1.1,()),()))) (some (((i5.mk a.L (w64 (a.I+1)) a.On a.F),()),()))))
def mM(g:Q_g)(a:i5)(b:Int):Option J6:=
 ((R6 g a).bind fun c=>((An g a).bind fun d=>(cond d.1.1 (rL g a c) (cond (!(decide (c.1.1.Ks=b))) (rL g a c) (some ((c.1.1,(i5.mk a.L (w64 (a.I+1)) a.On a.F),()),()))))))
def sG(g:Q_g)(a:i5)(b:RT5):Option J6:=
 ((Cy g a 5).bind fun c=>(some ((b.1.1,c.1.1,()),())))
def nJ(g:Q_g)(a:i5)(b:(b38)):Option RT6:=
 ((E3 g a b).bind fun c=>(cond c.1.1 (cond (decide (a.On≥40)) ((Cy g a 6).bind fun d=>(some ((d.1.1,()),()))) (nA g b a)) (nA g b a)))
def mE(g:Q_g)(a:(b38))(b:i5):Option RT6:=
 ((I2 g b a).bind fun c=>(some (((i5.mk c.1.1.L c.1.1.I (w64 (c.1.1.On+1)) c.1.1.F),()),())))
def nR(g:Q_g)(a:i5)(b:(b38)):Option RT6:=
 ((I2 g a b).bind fun c=>(some (((i5.mk c.1.1.L c.1.1.I (w64 (c.1.1.On-1)) c.1.1.F),()),())))
def iI(g:Q_g)(a:i5):b3V:=
 ((R6 g a).bind fun b=>lY g 0 a b)
def Qz(g:Q_g)(a:Int)(b:i5)(c:RT5):b3V:=
 (cond (decide (a<(([[105,110,116],[98,111,111,108],[115,116,114],[99,111,109,112]]:List (b38)).length:Int))) ((f5 ([[105,110,116],[98,111,111,108],[115,116,114],[99,111,109,112]]:List (b38)) a).bind fun d=>((([[105,110,116],[98,111,111,108],[115,116,114],[99,111,109,112]]:List (b38))[(Int.toNat a)]?).bind fun e=>((E3 g b e).bind fun f=>(cond f.1.1 ((F5 g (IntKind.wrap .u8 (w64 (15+a))) c.1.1 ([]:b38) 0 ([]:List d7)).bind fun h=>((f5 ([[105,110,116],[98,111,111,108],[115,116,114],[99,111,109,112]]:List (b38)) a).bind fun j=>((([[105,110,116],[98,111,111,108],[115,116,114],[99,111,109,112]]:List (b38))[(Int.toNat a)]?).bind fun k=>((I2 g b k).bind fun l=>(some ((h.1.1,l.1.1,()),())))))) (lY g (w64 (a+1)) b c))))) (AI g b c))
def gD(g:Q_g)(a:i5)(b:RT5):b3V:=
 ((E3 g a ([91]:b38)).bind fun c=>(cond c.1.1 ((Z7 g a ([91]:b38)).bind fun d=>((Jo g d.1.1).bind fun e=>((F5 g 20 b.1.1 ([]:b38) 0 e.1.1).bind fun f=>((Be g e.1.2.1 ([93]:b38)).bind fun h=>(some ((f.1.1,h.1.1,()),())))))) ((Ew g a 2).bind fun j=>((F5 g 19 j.1.1 j.1.1.Ds 0 ([]:List d7)).bind fun k=>(some ((k.1.1,j.1.2.1,()),()))))))
def lX(g:Q_g)(a:i5)(b:Int):b3V:=
 ((Ew g a 1).bind fun c=>((I2 g c.1.2.1 ([58]:b38)).bind fun d=>((Jo g d.1.1).bind fun e=>((F5 g b c.1.1 c.1.1.Ds 0 e.1.1).bind fun f=>(some ((f.1.1,e.1.2.1,()),()))))))
def Zr(g:Q_g)(a:i5):b3V:=
 ((R6 g a).bind fun b=>((I2 g a ([114,101,99]:b38)).bind fun c=>((Ew g c.1.1 2).bind fun d=>((Z7 g d.1.2.1 ([123]:b38)).bind fun e=>Yy g e.1.1 b d ([]:List d7)))))
def dB(g:Q_g)(a:i5)(b:RT5)(c:J6)(d:(List d7)):b3V:=
 ((An g a).bind fun e=>(cond (!e.1.1) ((E3 g a ([125]:b38)).bind fun f=>(cond (!f.1.1) ((iJ g a 3).bind fun h=>((I2 g h.1.2.1 ([59]:b38)).bind fun j=>((y8 56 d h.1.1).bind fun k=>Yy g j.1.1 b c k))) (mK g a b c d))) (mK g a b c d)))
def bN(g:Q_g)(a:i5)(b:RT5)(c:J6)(d:(List d7)):b3V:=
 ((F5 g 2 b.1.1 c.1.1.Ds 0 d).bind fun e=>((Be g a ([125]:b38)).bind fun f=>(some ((e.1.1,f.1.1,()),()))))
def rG(g:Q_g)(a:(List d7))(b:(List d7)):Option Tc:=
 ((y8 56 ([]:List d7) a).bind fun c=>((y8 56 c b).bind fun d=>(some ((d,()),()))))
def fO(g:Q_g)(a:i5):b3V:=
 ((Z7 g a ([40]:b38)).bind fun b=>iC g 0 b.1.1 ([]:List d7))
def oG(g:Q_g)(a:Int)(b:i5)(c:(List d7)):b3V:=
 ((An g b).bind fun d=>(cond (!d.1.1) ((E3 g b ([41]:b38)).bind fun e=>(cond (!e.1.1) (cond (decide (a>0)) ((I2 g b ([44]:b38)).bind fun f=>lC g a f.1.1 c) (lC g a b c)) (fH g b c))) (fH g b c)))
def mW(g:Q_g)(a:Int)(b:i5)(c:(List d7)):b3V:=
 ((K9 g b 1).bind fun d=>((y8 56 c d.1.1).bind fun e=>iC g (w64 (a+1)) d.1.2.1 e))
def kH(g:Q_g)(a:i5)(b:(List d7)):b3V:=
 ((Be g a ([41]:b38)).bind fun c=>(some ((b,c.1.1,()),())))
def rC(g:Q_g)(a:i5):b3V:=
 ((R6 g a).bind fun b=>((An g a).bind fun c=>(cond c.1.1 (some ((([(d7.mk 25 0 0 0 0 ([]:b38))]:List d7),a,()),())) (cond (decide (b.1.1.Ks=3)) ((F5 g 21 b.1.1 ([]:b38) b.1.1.Ns ([]:List d7)).bind fun d=>(some ((d.1.1,(i5.mk a.L (if(w64 ((a.L.length:Int)-1))<(w64 (a.I+1))then(w64 ((a.L.length:Int)-1))else(w64 (a.I+1))) a.On a.F),()),()))) (cond (decide (b.1.1.Ks=4)) ((F5 g 22 b.1.1 ([]:b38) b.1.1.Ns ([]:List d7)).bind fun e=>(some ((e.1.1,(i5.mk a.L (if(w64 ((a.L.length:Int)-1))<(w64 (a.I+1))then(w64 ((a.L.length:Int)-1))else(w64 (a.I+1))) a.On a.F),()),()))) (cond (decide (b.1.1.Ks=5)) ((F5 g 23 b.1.1 b.1.1.Ds 0 ([]:List d7)).bind fun f=>(some ((f.1.1,(i5.mk a.L (if(w64 ((a.L.length:Int)-1))<(w64 (a.I+1))then(w64 ((a.L.length:Int)-1))else(w64 (a.I+1))) a.On a.F),()),()))) ((E3 g a ([116,114,117,101]:b38)).bind fun h=>(cond h.1.1 ((F5 g 24 b.1.1 ([]:b38) 1 ([]:List d7)).bind fun j=>(some ((j.1.1,(i5.mk a.L (if(w64 ((a.L.length:Int)-1))<(w64 (a.I+1))then(w64 ((a.L.length:Int)-1))else(w64 (a.I+1))) a.On a.F),()),()))) ((E3 g a ([102,97,108,115,101]:b38)).bind fun k=>(cond k.1.1 ((F5 g 24 b.1.1 ([]:b38) 0 ([]:List d7)).bind fun l=>(some ((l.1.1,(i5.mk a.L (if(w64 ((a.L.length:Int)-1))<(w64 (a.I+1))then(w64 ((a.L.length:Int)-1))else(w64 (a.I+1))) a.On a.F),()),()))) ((E3 g a ([110,105,108]:b38)).bind fun m=>(cond m.1.1 ((F5 g 25 b.1.1 ([]:b38) 0 ([]:List d7)).bind fun n=>(some ((n.1.1,(i5.mk a.L (if(w64 ((a.L.length:Int)-1))<(w64 (a.I+1))then(w64 ((a.L.length:Int)-1))else(w64 (a.I+1))) a.On a.F),()),()))) (cond (decide (b.1.1.Ks=1)) ((E3 g (i5.mk a.L (if(w64 ((a.L.length:Int)-1))<(w64 (a.I+1))then(w64 ((a.L.length:Int)-1))else(w64 (a.I+1))) a.On a.F) ([40]:b38)).bind fun o=>(cond (!o.1.1) ((F5 g 26 b.1.1 b.1.1.Ds 0 ([]:List d7)).bind fun p=>(some ((p.1.1,(i5.mk a.L (if(w64 ((a.L.length:Int)-1))<(w64 (a.I+1))then(w64 ((a.L.length:Int)-1))else(w64 (a.I+1))) a.On a.F),()),()))) (Pe g a b))) (Pe g a b))))))))))))))
def oV(g:Q_g)(a:i5)(b:RT5):b3V:=
 ((E3 g a ([109,97,107,101]:b38)).bind fun c=>(cond c.1.1 ((Ew g (i5.mk a.L (if(w64 ((a.L.length:Int)-1))<(w64 (a.I+1))then(w64 ((a.L.length:Int)-1))else(w64 (a.I+1))) a.On a.F) 2).bind fun d=>((F5 g 19 d.1.1 d.1.1.Ds 0 ([]:List d7)).bind fun e=>((F5 g 32 b.1.1 ([]:b38) 0 e.1.1).bind fun f=>((Z7 g d.1.2.1 ([40]:b38)).bind fun h=>((Be g h.1.1 ([41]:b38)).bind fun j=>(some ((f.1.1,j.1.1,()),()))))))) (EL g a)))
def iH(g:Q_g)(a:i5)(b:RT5):b3V:=
 (cond (decide (b.1.1.Ks=1)) ((GV g (i5.mk a.L (if(w64 ((a.L.length:Int)-1))<(w64 (a.I+1))then(w64 ((a.L.length:Int)-1))else(w64 (a.I+1))) a.On a.F)).bind fun c=>((F5 g 27 b.1.1 b.1.1.Ds 0 c.1.1).bind fun d=>(some ((d.1.1,c.1.2.1,()),())))) ((E3 g a ([40]:b38)).bind fun e=>(cond e.1.1 ((Z7 g a ([40]:b38)).bind fun f=>((K9 g f.1.1 1).bind fun h=>((Be g h.1.2.1 ([41]:b38)).bind fun j=>(some ((h.1.1,j.1.1,()),()))))) ((E3 g a ([109,97,107,101]:b38)).bind fun k=>(cond k.1.1 ((E3 g (i5.mk a.L (if(w64 ((a.L.length:Int)-1))<(w64 (a.I+1))then(w64 ((a.L.length:Int)-1))else(w64 (a.I+1))) a.On a.F) ([91]:b38)).bind fun l=>(cond l.1.1 ((Jo g (i5.mk a.L (if(w64 ((a.L.length:Int)-1))<(w64 (a.I+1))then(w64 ((a.L.length:Int)-1))else(w64 (a.I+1))) a.On a.F)).bind fun m=>((Z7 g m.1.2.1 ([40]:b38)).bind fun n=>((K9 g n.1.1 1).bind fun o=>((Ao g m.1.1 o.1.1).bind fun p=>((F5 g 32 b.1.1 ([]:b38) 0 p.1.1).bind fun q=>((Be g o.1.2.1 ([41]:b38)).bind fun s=>(some ((q.1.1,s.1.1,()),())))))))) (Mu g a b))) (Mu g a b))))))
def dO(g:Q_g)(a:i5):b3V:=
 ((Cy g a 5).bind fun b=>(some ((([(d7.mk 25 0 0 0 0 ([]:b38))]:List d7),b.1.1,()),())))
def lW(g:Q_g)(a:i5):b3V:=
 ((AX g a).bind fun b=>Qj g b.1.1 b.1.2.1)
def mX(g:Q_g)(a:(List d7))(b:i5):b3V:=
 ((E3 g b ([91]:b38)).bind fun c=>(cond c.1.1 (cJ g a b) ((E3 g b ([46]:b38)).bind fun d=>(cond d.1.1 (cJ g a b) (uG g a b)))))
def Yz(g:Q_g)(a:(List d7))(b:i5):b3V:=
 ((R6 g b).bind fun c=>(cond (decide (c.1.1.Ds=([91]:b38))) ((Z7 g b ([91]:b38)).bind fun d=>((K9 g d.1.1 1).bind fun e=>((Be g e.1.2.1 ([93]:b38)).bind fun f=>((Ao g a e.1.1).bind fun h=>((F5 g 28 c.1.1 ([]:b38) 0 h.1.1).bind fun j=>Qj g j.1.1 f.1.1))))) ((I2 g b ([46]:b38)).bind fun k=>((Ew g k.1.1 1).bind fun l=>((F5 g 29 c.1.1 l.1.1.Ds 0 a).bind fun m=>Qj g m.1.1 l.1.2.1)))))
def kE(g:Q_g)(a:(List d7))(b:i5):b3V:=
 (some ((a,b,()),()))
def rB(g:Q_g)(a:i5):b3V:=
 ((R6 g a).bind fun b=>((E3 g a ([45]:b38)).bind fun c=>(cond (!c.1.1) ((E3 g a ([33]:b38)).bind fun d=>(cond (!d.1.1) ((UJ g a).bind fun e=>(some ((e.1.1,e.1.2.1,()),()))) (nQ g a b))) (nQ g a b))))
def nY(g:Q_g)(a:i5)(b:RT5):b3V:=
 ((Z7 g a b.1.1.Ds).bind fun c=>((Mx g c.1.1).bind fun d=>(cond (decide (b.1.1.Ds=([45]:b38))) ((F5 g 30 b.1.1 ([]:b38) 12 d.1.1).bind fun e=>(some ((e.1.1,(i5.mk d.1.2.1.L d.1.2.1.I (w64 (d.1.2.1.On-1)) d.1.2.1.F),()),()))) ((F5 g 30 b.1.1 ([]:b38) 13 d.1.1).bind fun f=>(some ((f.1.1,(i5.mk d.1.2.1.L d.1.2.1.I (w64 (d.1.2.1.On-1)) d.1.2.1.F),()),()))))))
def Zw(g:Q_g)(a:Int):Option U9:=
 (cond (decide (a=1)) (some ((([([124,124]:b38)]:List (b38)),([15]:List Int),()),())) (cond (decide (a=2)) (some ((([([38,38]:b38)]:List (b38)),([14]:List Int),()),())) (cond (decide (a=3)) (some ((([([61,61]:b38),([33,61]:b38)]:List (b38)),([6,7]:List Int),()),())) (cond (decide (a=4)) (some ((([([60]:b38),([60,61]:b38),([62]:b38),([62,61]:b38)]:List (b38)),([8,9,10,11]:List Int),()),())) (cond (decide (a=5)) (some ((([([43]:b38),([45]:b38)]:List (b38)),([1,2]:List Int),()),())) (some ((([([42]:b38),([47]:b38),([37]:b38)]:List (b38)),([3,4,5]:List Int),()),())))))))
def Qv(g:Q_g)(a:i5)(b:Int):b3V:=
 (cond (decide (b>6)) ((Mx g a).bind fun c=>(some ((c.1.1,c.1.2.1,()),()))) ((K9 g a (w64 (b+1))).bind fun d=>((yB g b).bind fun e=>mZ g b d.1.1 true d.1.2.1 e)))
def Rd(g:Q_g)(a:Int)(b:(List d7))(c:Bool)(d:i5)(e:U9):b3V:=
 (cond c (Ie g a b false e 0 d) (KK g b d))
def Wb(g:Q_g)(a:Int)(b:(List d7))(c:Bool)(d:U9)(e:Int)(f:i5):b3V:=
 (cond (decide (e<(d.1.1.length:Int))) (cond (!c) ((f5 d.1.1 e).bind fun h=>((d.1.1[(Int.toNat e)]?).bind fun j=>((E3 g f j).bind fun k=>(cond k.1.1 ((R6 g f).bind fun l=>((f5 d.1.1 e).bind fun m=>((d.1.1[(Int.toNat e)]?).bind fun n=>((I2 g f n).bind fun o=>((K9 g o.1.1 (w64 (a+1))).bind fun p=>((f5 d.1.2.1 e).bind fun q=>((d.1.2.1[(Int.toNat e)]?).bind fun s=>((Ao g b p.1.1).bind fun t=>((F5 g 31 l.1.1 ([]:b38) s t.1.1).bind fun u=>Ie g a u.1.1 true d (w64 (e+1)) p.1.2.1))))))))) (Ie g a b c d (w64 (e+1)) f))))) (Ie g a b c d (w64 (e+1)) f)) (xD g a b c f d))
def cE(g:Q_g)(a:Int)(b:(List d7))(c:Bool)(d:i5)(e:U9):b3V:=
 (cond (decide (a=3)) (some ((b,d,()),())) (cond (decide (a=4)) (some ((b,d,()),())) (mZ g a b c d e)))
def aO(g:Q_g)(a:(List d7))(b:i5):b3V:=
 (some ((a,b,()),()))
def Yu(g:Q_g)(a:i5):b3V:=
 ((R6 g a).bind fun b=>((E3 g a ([118,97,114]:b38)).bind fun c=>(cond c.1.1 ((I2 g a ([118,97,114]:b38)).bind fun d=>((Ew g d.1.1 1).bind fun e=>((I2 g e.1.2.1 ([58]:b38)).bind fun f=>((Jo g f.1.1).bind fun h=>((I2 g h.1.2.1 ([61]:b38)).bind fun j=>((K9 g j.1.1 1).bind fun k=>((Ao g h.1.1 k.1.1).bind fun l=>((F5 g 7 b.1.1 e.1.1.Ds 0 l.1.1).bind fun m=>((I2 g k.1.2.1 ([59]:b38)).bind fun n=>(some ((m.1.1,n.1.1,()),()))))))))))) ((E3 g a ([105,102]:b38)).bind fun o=>(cond o.1.1 ((I2 g a ([105,102]:b38)).bind fun p=>((K9 g p.1.1 1).bind fun q=>((Fa g q.1.2.1).bind fun s=>((Ao g q.1.1 s.1.1).bind fun t=>((E3 g s.1.2.1 ([101,108,115,101]:b38)).bind fun u=>(cond u.1.1 ((I2 g s.1.2.1 ([101,108,115,101]:b38)).bind fun v=>((Fa g v.1.1).bind fun w=>((Ao g t.1.1 w.1.1).bind fun y=>sZ g b w.1.2.1 y.1.1))) (sZ g b s.1.2.1 t.1.1))))))) ((E3 g a ([119,104,105,108,101]:b38)).bind fun z=>(cond z.1.1 ((I2 g a ([119,104,105,108,101]:b38)).bind fun a1=>((K9 g a1.1.1 1).bind fun b1=>((Fa g b1.1.2.1).bind fun c1=>((Ao g b1.1.1 c1.1.1).bind fun d1=>((F5 g 10 b.1.1 ([]:b38) 0 d1.1.1).bind fun e1=>(some ((e1.1.1,c1.1.2.1,()),()))))))) ((E3 g a ([114,101,116,117,114,110]:b38)).bind fun f1=>(cond f1.1.1 ((I2 g a ([114,101,116,117,114,110]:b38)).bind fun h1=>((E3 g h1.1.1 ([59]:b38)).bind fun j1=>(cond (!j1.1.1) ((K9 g h1.1.1 1).bind fun k1=>DF g k1.1.1 b k1.1.2.1) (DF g ([]:List d7) b h1.1.1)))) ((E3 g a ([112,114,105,110,116]:b38)).bind fun l1=>(cond l1.1.1 ((I2 g a ([112,114,105,110,116]:b38)).bind fun m1=>((K9 g m1.1.1 1).bind fun n1=>((F5 g 12 b.1.1 ([]:b38) 0 n1.1.1).bind fun o1=>((I2 g n1.1.2.1 ([59]:b38)).bind fun p1=>(some ((o1.1.1,p1.1.1,()),())))))) ((K9 g a 1).bind fun q1=>((f5 q1.1.1 0).bind fun s1=>((E3 g q1.1.2.1 ([61]:b38)).bind fun t1=>(cond t1.1.1 (cond (decide (s1.Ks=26)) (Tj g q1 b) (cond (decide (s1.Ks=28)) (Tj g q1 b) (cond (decide (s1.Ks=29)) (Tj g q1 b) (cA g q1 s1 b)))) (cA g q1 s1 b))))))))))))))))
def Rr(g:Q_g)(a:RT5)(b:i5)(c:(List d7)):b3V:=
 ((F5 g 9 a.1.1 ([]:b38) 0 c).bind fun d=>(some ((d.1.1,b,()),())))
def Vu(g:Q_g)(a:(List d7))(b:RT5)(c:i5):b3V:=
 ((F5 g 11 b.1.1 ([]:b38) 0 a).bind fun d=>((I2 g c ([59]:b38)).bind fun e=>(some ((d.1.1,e.1.1,()),()))))
def mR(g:Q_g)(a:o4)(b:RT5):b3V:=
 ((I2 g a.1.2.1 ([61]:b38)).bind fun c=>((K9 g c.1.1 1).bind fun d=>((Ao g a.1.1 d.1.1).bind fun e=>((F5 g 8 b.1.1 ([]:b38) 0 e.1.1).bind fun f=>((I2 g d.1.2.1 ([59]:b38)).bind fun h=>(some ((f.1.1,h.1.1,()),())))))))
def sD(g:Q_g)(a:o4)(b:RT5):b3V:=
 ((Cy g a.1.2.1 5).bind fun c=>Qi g a c.1.1 b)
def eF(g:Q_g)(a:o4)(b:i5)(c:RT5):b3V:=
 ((F5 g 13 c.1.1 ([]:b38) 0 a.1.1).bind fun d=>((I2 g b ([59]:b38)).bind fun e=>(some ((d.1.1,e.1.1,()),()))))
def qJ(g:Q_g)(a:o4)(b:d7)(c:RT5):b3V:=
 ((E3 g a.1.2.1 ([61]:b38)).bind fun d=>(cond d.1.1 (hH g a c) ((E3 g a.1.2.1 ([59]:b38)).bind fun e=>(cond e.1.1 (cond (!(decide (b.Ks=27))) (hH g a c) (Qi g a a.1.2.1 c)) (Qi g a a.1.2.1 c)))))
def mU(g:Q_g)(a:i5):b3V:=
 ((R6 g a).bind fun b=>((Z7 g a ([123]:b38)).bind fun c=>rU g c.1.1 b ([]:List d7)))
def hY(g:Q_g)(a:i5)(b:RT5)(c:(List d7)):b3V:=
 ((An g a).bind fun d=>(cond (!d.1.1) ((E3 g a ([125]:b38)).bind fun e=>(cond (!e.1.1) ((Lw g a).bind fun f=>((y8 56 c f.1.1).bind fun h=>rU g f.1.2.1 b h)) (qN g a b c))) (qN g a b c)))
def jM(g:Q_g)(a:i5)(b:RT5)(c:(List d7)):b3V:=
 ((F5 g 6 b.1.1 ([]:b38) 0 c).bind fun d=>((Be g a ([125]:b38)).bind fun e=>(some ((d.1.1,e.1.1,()),()))))
def eK(g:Q_g)(a:i5):b3V:=
 ((R6 g a).bind fun b=>((I2 g a ([102,110]:b38)).bind fun c=>((Ew g c.1.1 1).bind fun d=>((Z7 g d.1.2.1 ([40]:b38)).bind fun e=>rH g 0 e.1.1 b d ([]:List d7)))))
def nB(g:Q_g)(a:Int)(b:i5)(c:RT5)(d:J6)(e:(List d7)):b3V:=
 ((An g b).bind fun f=>(cond (!f.1.1) ((E3 g b ([41]:b38)).bind fun h=>(cond (!h.1.1) (cond (decide (a>0)) ((I2 g b ([44]:b38)).bind fun j=>Zg g a j.1.1 c d e) (Zg g a b c d e)) (Yp g a b c d e))) (Yp g a b c d e)))
def fM(g:Q_g)(a:Int)(b:i5)(c:RT5)(d:J6)(e:(List d7)):b3V:=
 ((iJ g b 5).bind fun f=>((y8 56 e f.1.1).bind fun h=>rH g (w64 (a+1)) f.1.2.1 c d h))
def bT(g:Q_g)(a:Int)(b:i5)(c:RT5)(d:J6)(e:(List d7)):b3V:=
 ((Be g b ([41]:b38)).bind fun f=>((E3 g f.1.1 ([58]:b38)).bind fun h=>(cond h.1.1 ((I2 g f.1.1 ([58]:b38)).bind fun j=>((Jo g j.1.1).bind fun k=>fJ g a k.1.2.1 c d e k.1.1)) (fJ g a f.1.1 c d e ([(d7.mk 14 0 0 0 0 ([]:b38))]:List d7)))))
def kF(g:Q_g)(a:Int)(b:i5)(c:RT5)(d:J6)(e:(List d7))(f:(List d7)):b3V:=
 ((Fa g b).bind fun h=>((Ao g e f).bind fun j=>((Ao g j.1.1 h.1.1).bind fun k=>((F5 g 4 c.1.1 d.1.1.Ds a k.1.1).bind fun l=>(some ((l.1.1,h.1.2.1,()),()))))))
def Zj(g:Q_g)(a:i5):b3V:=
 iV g a ([]:List d7)
def eM(g:Q_g)(a:i5)(b:(List d7)):b3V:=
 ((An g a).bind fun c=>(cond (!c.1.1) ((R6 g a).bind fun d=>(cond (!(decide (d.1.1.Ks=8))) ((E3 g a ([114,101,99]:b38)).bind fun e=>(cond e.1.1 ((CB g a).bind fun f=>Tu g f.1.2.1 b f.1.1) ((E3 g a ([102,110]:b38)).bind fun h=>(cond h.1.1 ((CZ g a).bind fun j=>Tu g j.1.2.1 b j.1.1) ((Cy g a 5).bind fun k=>Tu g k.1.1 b ([]:List d7)))))) (Yi g a b))) (Yi g a b)))
def kZ(g:Q_g)(a:i5)(b:(List d7))(c:(List d7)):b3V:=
 ((y8 56 b c).bind fun d=>iV g a d)
def gW(g:Q_g)(a:i5)(b:(List d7)):b3V:=
 ((F5 g 1 (l5.mk 0 1 1 0 ([]:b38)) ([]:b38) 0 b).bind fun c=>(some ((c.1.1,a,()),())))
def mO(g:Q_g)(a:(List d7))(b:i5):Option Jn:=
 ((R6 g b).bind fun c=>(cond (!(decide (c.1.1.Ks=8))) ((Cy g b 5).bind fun d=>cZ g a d.1.1) (cZ g a b)))
def dH(g:Q_g)(a:(List d7))(b:i5):Option Jn:=
 ((An g b).bind fun c=>(cond c.1.1 (some ((([]:List d7),b.F,()),())) (some ((a,(x8.mk 0 0 0),()),()))))
def kP(g:Q_g)(a:(b38)):Option Jn:=
 ((sL g a).bind fun b=>(cond (!(decide (b.1.2.1.Code=0))) (some ((([]:List d7),b.1.2.1,()),())) ((XX g (i5.mk b.1.1 0 0 (x8.mk 0 0 0))).bind fun c=>((yC g c.1.1 c.1.2.1).bind fun d=>(some ((d.1.1,d.1.2.1,()),()))))))
def gZ(g:Q_g)(a:(List d7))(b:Int):Option RT3:=
 eR g a b (w64 (b+1)) ([]:List Int)
def Ty(g:Q_g)(a:(List d7))(b:Int)(c:Int)(d:(List Int)):Option RT3:=
 ((f5 a b).bind fun e=>(cond (decide (c<(w64 ((w64 (b+1))+e.Cs)))) ((y8 8 d ([c]:List Int)).bind fun f=>((f5 a c).bind fun h=>eR g a b (w64 ((w64 (c+1))+h.Cs)) f)) (FW g d)))
def jG(g:Q_g)(a:(List Int)):Option RT3:=
 (some ((a,()),()))
def cO(g:Q_g)(a:(List d7))(b:Int):Option RT2:=
 (cond (decide (b≥(a.length:Int))) (some (((-1),()),())) ((f5 a b).bind fun c=>(cond (decide (c.Cs<0)) (some (((-1),()),())) ((f5 a b).bind fun d=>(cond (decide (d.Cs>(w64 ((w64 ((a.length:Int)-1))-b)))) (some (((-1),()),())) ((f5 a b).bind fun e=>mJ g a b e (w64 (b+1))))))))
def Ve(g:Q_g)(a:(List d7))(b:Int)(c:d7)(d:Int):Option RT2:=
 (cond (decide (d≥0)) (cond (decide (d<(w64 ((w64 (b+1))+c.Cs)))) ((Ou g a d).bind fun e=>mJ g a b c e.1.1) (tB g b c d)) (tB g b c d))
def Sy(g:Q_g)(a:Int)(b:d7)(c:Int):Option RT2:=
 (cond (!(decide (c=(w64 ((w64 (a+1))+b.Cs))))) (some (((-1),()),())) (some (((w64 ((w64 (a+1))+b.Cs)),()),())))
def kB(g:Q_g)(a:(List d7)):Option RT0:=
 (cond (decide ((a.length:Int)>0)) ((Ou g a 0).bind fun b=>(some (((decide (b.1.1=(a.length:Int))),()),()))) (some ((false,()),())))
def bA(g:Q_g)(a:(b38))(b:Int):Option RT0:=
 (cond (decide ((a.length:Int)=0)) (some ((false,()),())) ((f5 a 0).bind fun c=>(cond (decide ((c.toNat:Int)≥48)) ((f5 a 0).bind fun d=>(cond (decide ((d.toNat:Int)≤57)) (some ((false,()),())) (Ye g a b))) (Ye g a b))))
def Yd(g:Q_g)(a:(b38))(b:Int):Option RT0:=
 ((Xy g a 0).bind fun c=>(cond (decide (c.1.2.2.1=0)) (cond (decide (c.1.2.1=(a.length:Int))) (some (((decide (c.1.1.Ks=b)),()),())) (some ((false,()),()))) (some ((false,()),()))))
def aY(g:Q_g)(a:(b38)):Option RT0:=
 ((oR g a 2).bind fun b=>(some ((b.1.1,()),())))
def Yv(g:Q_g)(a:(b38)):Option RT0:=
 ((oR g a 1).bind fun b=>(some ((b.1.1,()),())))
def oH(g:Q_g)(a:d7):Option RT0:=
 (cond (decide (a.Ks=2)) (mQ g a) (cond (decide (a.Ks=19)) (mQ g a) (cond (decide (a.Ks=3)) (Gu g a) (cond (decide (a.Ks=5)) (Gu g a) (cond (decide (a.Ks=7)) (Gu g a) (cond (decide (a.Ks=26)) (Gu g a) (cond (decide (a.Ks=27)) (Gu g a) (cond (decide (a.Ks=29)) (Gu g a) (cond (decide (a.Ks=4)) ((bB g a.Ds).bind fun b=>(some ((b.1.1,()),()))) (cond (decide (a.Ks=23)) (some (((decide (a.Ns=0)),()),())) (cond (!(decide (a.Ds=([]:b38)))) (some ((false,()),())) (cond (decide (a.Ks=21)) (some (((decide (a.Ns≥0)),()),())) (cond (decide (a.Ks=22)) (cond (decide (a.Ns≥0)) (some (((decide (a.Ns<8388608)),()),())) (some ((false,()),()))) (cond (decide (a.Ks=24)) (cond (decide (a.Ns=0)) (some ((true,()),())) (some (((decide (a.Ns=1)),()),()))) (cond (decide (a.Ks=30)) (cond (decide (a.Ns=12)) (some ((true,()),())) (some (((decide (a.Ns=13)),()),()))) (cond (decide (a.Ks=31)) (cond (decide (a.Ns≥1)) (cond (decide (a.Ns≤11)) (some ((true,()),())) (cond (decide (a.Ns=14)) (some ((true,()),())) (some (((decide (a.Ns=15)),()),())))) (cond (decide (a.Ns=14)) (some ((true,()),())) (some (((decide (a.Ns=15)),()),())))) (some (((decide (a.Ns=0)),()),()))))))))))))))))))
def jF(g:Q_g)(a:d7):Option RT0:=
 ((xE g a.Ds).bind fun b=>(cond b.1.1 (some (((decide (a.Ns=0)),()),())) (some ((false,()),()))))
def qM(g:Q_g)(a:d7):Option RT0:=
 ((bB g a.Ds).bind fun b=>(cond b.1.1 (some (((decide (a.Ns=0)),()),())) (some ((false,()),()))))
def bP(g:Q_g)(a:d7):Option RT2:=
 (cond (decide (a.Ks=14)) (some ((48,()),())) (cond (decide (a.Ks≥15)) (cond (decide (a.Ks≤20)) (some ((116,()),())) (kQ g a)) (kQ g a)))
def kV(g:Q_g)(a:d7):Option RT2:=
 (cond (decide (a.Ks=6)) (some ((98,()),())) (cond (decide (a.Ks=5)) (some ((112,()),())) (cond (decide (a.Ks=3)) (some ((102,()),())) (cond (decide (a.Ks=2)) (some ((100,()),())) (cond (decide (a.Ks=4)) (some ((100,()),())) (SR g))))))
def cX(g:Q_g)(a:d7):Option RT2:=
 (cond (decide (a.Ks≥7)) (cond (decide (a.Ks≤13)) (some ((115,()),())) (nV g a)) (nV g a))
def kO(g:Q_g)(a:d7):Option RT2:=
 (cond (decide (a.Ks≥21)) (cond (decide (a.Ks≤32)) (some ((101,()),())) (rK g a)) (rK g a))
def pC(g:Q_g):Option RT2:=
 (some ((45,()),()))
def bH(g:Q_g)(a:(b38))(b:Int):Option RT0:=
 Zx g a b 0
def Vp(g:Q_g)(a:(b38))(b:Int)(c:Int):Option RT0:=
 (cond (decide (c<(a.length:Int))) ((f5 a c).bind fun d=>(cond (!(decide ((d.toNat:Int)=b))) (some ((false,()),())) (Zx g a b (w64 (c+1))))) (QR g))
def eE(g:Q_g):Option RT0:=
 (some ((true,()),()))
def sC(g:Q_g)(a:(List d7))(b:Int):Option RT0:=
 ((O4 g a b).bind fun c=>Wy g a b c 0 ([]:List Int))
def Wh(g:Q_g)(a:(List d7))(b:Int)(c:RT3)(d:Int)(e:(List Int)):Option RT0:=
 (cond (decide (d<(c.1.1.length:Int))) ((f5 c.1.1 d).bind fun f=>((c.1.1[(Int.toNat d)]?).bind fun h=>((f5 a h).bind fun j=>((CE g j).bind fun k=>((y8 1 e ([k.1.1]:List Int)).bind fun l=>Wy g a b c (w64 (d+1)) l))))) (CO g a b c e))
def eO(g:Q_g)(a:(List d7))(b:Int)(c:RT3)(d:(List Int)):Option RT0:=
 ((Ql d).bind fun _=>(cond (decide ((c.1.1.length:Int)>0)) ((f5 c.1.1 0).bind fun e=>((c.1.1[(Int.toNat 0)]?).bind fun f=>((f5 a f).bind fun h=>bF g a b d h))) (bF g a b d (d7.mk 0 0 0 0 0 ([]:b38)))))
def lS(g:Q_g)(a:(List d7))(b:Int)(c:(List Int))(d:d7):Option RT0:=
 ((f5 a b).bind fun e=>(cond (decide (e.Ks=1)) (cond (decide (b=0)) ((Ll g (y6 c) 100).bind fun f=>(some ((f.1.1,()),()))) (some ((false,()),()))) (cond (decide (e.Ks=2)) ((Ll g (y6 c) 102).bind fun h=>(some ((h.1.1,()),()))) (cond (decide (e.Ks=3)) (some (((decide ((y6 c)=([116]:b38))),()),())) (cond (decide (e.Ks=5)) (some (((decide ((y6 c)=([116]:b38))),()),())) (cond (decide (e.Ks=20)) (some (((decide ((y6 c)=([116]:b38))),()),())) (cond (decide (e.Ks=4)) (cond (decide (((y6 c).length:Int)≥2)) ((f5 a b).bind fun j=>(cond (decide ((w64 (((y6 c).length:Int)-2))=j.Ns)) ((okP (C8 (0:Int) (w64 (((y6 c).length:Int)-2)) ((y6 c).length:Int))).bind fun _=>((Ll g (x6 (y6 c) (0:Int) (w64 (((y6 c).length:Int)-2))) 112).bind fun k=>(cond k.1.1 ((f5 (y6 c) (w64 (((y6 c).length:Int)-2))).bind fun l=>(cond (decide ((l.toNat:Int)=116)) ((f5 (y6 c) (w64 (((y6 c).length:Int)-1))).bind fun m=>(some (((decide ((m.toNat:Int)=98)),()),()))) ((f5 (y6 c) (w64 (((y6 c).length:Int)-2))).bind fun n=>(cond (decide ((n.toNat:Int)=48)) ((f5 (y6 c) (w64 (((y6 c).length:Int)-1))).bind fun m=>(some (((decide ((m.toNat:Int)=98)),()),()))) (some ((false,()),())))))) (some ((false,()),()))))) (some ((false,()),())))) (some ((false,()),()))) (cond (decide (e.Ks=6)) ((Ll g (y6 c) 115).bind fun o=>(some ((o.1.1,()),()))) (cond (decide (e.Ks=7)) (some (((decide ((y6 c)=([116,101]:b38))),()),())) (cond (decide (e.Ks=8)) (cond (decide ((y6 c)=([101,101]:b38))) (cond (decide (d.Ks=26)) (some ((true,()),())) (cond (decide (d.Ks=28)) (some ((true,()),())) (some (((decide (d.Ks=29)),()),())))) (some ((false,()),()))) (cond (decide (e.Ks=9)) (cond (decide ((y6 c)=([101,98]:b38))) (some ((true,()),())) (some (((decide ((y6 c)=([101,98,98]:b38))),()),()))) (cond (decide (e.Ks=10)) (some (((decide ((y6 c)=([101,98]:b38))),()),())) (cond (decide (e.Ks=11)) (cond (decide ((y6 c)=([]:b38))) (some ((true,()),())) (some (((decide ((y6 c)=([101]:b38))),()),()))) (cond (decide (e.Ks=12)) (some (((decide ((y6 c)=([101]:b38))),()),())) (cond (decide (e.Ks=29)) (some (((decide ((y6 c)=([101]:b38))),()),())) (cond (decide (e.Ks=30)) (some (((decide ((y6 c)=([101]:b38))),()),())) (cond (decide (e.Ks=13)) (cond (decide ((y6 c)=([101]:b38))) (some (((decide (d.Ks=27)),()),())) (some ((false,()),()))) (cond (decide (e.Ks=27)) ((Ll g (y6 c) 101).bind fun p=>(some ((p.1.1,()),()))) (cond (decide (e.Ks=28)) (some (((decide ((y6 c)=([101,101]:b38))),()),())) (cond (decide (e.Ks=31)) (some (((decide ((y6 c)=([101,101]:b38))),()),())) (cond (decide (e.Ks=32)) (cond (decide ((y6 c)=([116]:b38))) (cond (decide (d.Ks=19)) (some ((true,()),())) (cond (decide ((y6 c)=([116,101]:b38))) (some (((decide (d.Ks=20)),()),())) (some ((false,()),())))) (cond (decide ((y6 c)=([116,101]:b38))) (some (((decide (d.Ks=20)),()),())) (some ((false,()),())))) (cond (decide ((y6 c)=([]:b38))) ((f5 a b).bind fun q=>(cond (decide (q.Ks≥14)) ((f5 a b).bind fun s=>(some (((decide (s.Ks≤26)),()),()))) (some ((false,()),())))) (some ((false,()),()))))))))))))))))))))))))
def jX(g:Q_g)(a:(List d7)):Option RT0:=
 ((eH g a).bind fun b=>(cond (!b.1.1) (some ((false,()),())) ((f5 a 0).bind fun c=>(cond (!(decide (c.Ks=1))) (some ((false,()),())) (jB g a 0)))))
def Vc(g:Q_g)(a:(List d7))(b:Int):Option RT0:=
 (cond (decide (b<(a.length:Int))) ((f5 a b).bind fun c=>((CP g c).bind fun d=>(cond (!d.1.1) (some ((false,()),())) ((yX g a b).bind fun e=>(cond (!e.1.1) (some ((false,()),())) (jB g a (w64 (b+1)))))))) (GR g))
def dT(g:Q_g):Option RT0:=
 (some ((true,()),()))
def BR(g:Q_g)(a:d8):Option RT0:=
 (some (((!(decide (a.F.Code=0))),()),()))
def kS(g:Q_g)(a:d8)(b:(b38)):Option RT2:=
 oM g b a 0
def Wm(g:Q_g)(a:(b38))(b:d8)(c:Int):Option RT2:=
 (cond (decide (c<(b.P.As.length:Int))) ((f5 b.P.As c).bind fun d=>(cond (decide (d.In=a)) (some ((c,()),())) (oM g a b (w64 (c+1))))) (JD g))
def sT(g:Q_g):Option RT2:=
 (some (((-1),()),()))
def jW(g:Q_g)(a:(List d7))(b:Int):Option RT3:=
 ((O4 g a 0).bind fun c=>Wz g a b c 0 ([]:List Int))
def Uh(g:Q_g)(a:(List d7))(b:Int)(c:RT3)(d:Int)(e:(List Int)):Option RT3:=
 (cond (decide (d<(c.1.1.length:Int))) ((f5 c.1.1 d).bind fun f=>((c.1.1[(Int.toNat d)]?).bind fun h=>((f5 a h).bind fun j=>(cond (decide (j.Ks=b)) ((f5 c.1.1 d).bind fun k=>((c.1.1[(Int.toNat d)]?).bind fun l=>((y8 8 e ([l]:List Int)).bind fun m=>Wz g a b c (w64 (d+1)) m))) (Wz g a b c (w64 (d+1)) e))))) (SD g e))
def mY(g:Q_g)(a:(List Int)):Option RT3:=
 (some ((a,()),()))
def eY(g:Q_g)(a:(List d7))(b:(List Int))(c:(b38)):Option RT0:=
 Yn g a b c 0
def Wt(g:Q_g)(a:(List d7))(b:(List Int))(c:(b38))(d:Int):Option RT0:=
 (cond (decide (d<(b.length:Int))) ((f5 b d).bind fun e=>((f5 a e).bind fun f=>(cond (decide (f.Ds=c)) (some ((true,()),())) (Yn g a b c (w64 (d+1)))))) (OJ g))
def gQ(g:Q_g):Option RT0:=
 (some ((false,()),()))
def qQ(g:Q_g)(a:Int):Option Kk:=
 aA g a 0 ([(o0.mk 0 0),(o0.mk 1 0),(o0.mk 2 0),(o0.mk 3 0),(o0.mk 4 0),(o0.mk 5 0)]:List o0)
def Qg(g:Q_g)(a:Int)(b:Int)(c:(List o0)):Option Kk:=
 (cond (decide (b<a)) (cond (decide (b<100)) ((y8 16 c ([(o0.mk 6 b)]:List o0)).bind fun d=>aA g a (w64 (b+1)) d) (tP g c)) (tP g c))
def bY(g:Q_g)(a:(List o0)):Option Kk:=
 (some ((a,()),()))
def Ke(g:Q_g)(a:d8)(b:Int)(c:i8):b3U:=
 ((y8 24 ([]:List i8) a.P.Ms).bind fun d=>((f5 d b).bind fun e=>((d[(Int.toNat b)]?).bind fun f=>((Q5 d (Int.toNat b) c).bind fun h=>(some (((d8.mk (l9.mk a.P.No h a.P.To a.P.Rs a.P.Hs a.P.As a.P.Ss a.P.Vars a.P.Ps) a.Rs a.F),()),()))))))
def oW(g:Q_g)(a:(List o0))(b:Int):b37:=
 ((y8 16 ([]:List o0) a).bind fun c=>(cond (decide (b<1)) (some ((c,0,()),())) (cond (decide (b≥(a.length:Int))) (some ((c,0,()),())) (cond (decide (b=5)) (some ((c,0,()),())) (Uw g a b 0 c)))))
def Rl(g:Q_g)(a:(List o0))(b:Int)(c:Int)(d:(List o0)):b37:=
 (cond (decide (c<(a.length:Int))) ((f5 a c).bind fun e=>(cond (decide (e.Ks=7)) ((f5 a c).bind fun f=>(cond (decide (f.Of=b)) (some ((d,c,()),())) (Uw g a b (w64 (c+1)) d))) (Uw g a b (w64 (c+1)) d))) (RZ g a b d))
def qV(g:Q_g)(a:(List o0))(b:Int)(c:(List o0)):b37:=
 ((y8 16 c ([(o0.mk 7 b)]:List o0)).bind fun d=>(some ((d,(a.length:Int),()),())))
def oA(g:Q_g)(a:(List d7)):Option RT0:=
 ((eH g a).bind fun b=>(cond (!b.1.1) (some ((false,()),())) ((y8 56 ([(d7.mk 1 0 0 (w64 ((a.length:Int)+2)) 0 ([]:b38)),(d7.mk 2 0 0 (w64 ((a.length:Int)+1)) 0 ([82]:b38)),(d7.mk 3 0 0 (a.length:Int) 0 ([102]:b38))]:List d7) a).bind fun c=>((oB g c).bind fun d=>(some ((d.1.1,()),()))))))
def iE(g:Q_g)(a:(List o0))(b:(List (b38)))(c:d7):Option RT2:=
 (cond (decide (c.Ks<19)) (some (((w64 ((w64 c.Ks)-14)),()),())) (nO g a b 0 c))
def Vk(g:Q_g)(a:(List o0))(b:(List (b38)))(c:Int)(d:d7):Option RT2:=
 (cond (decide (c<(b.length:Int))) ((f5 b c).bind fun e=>(cond (decide (e=d.Ds)) (cond (decide ((w64 (c+6))<(a.length:Int))) ((f5 a (w64 (c+6))).bind fun f=>(cond (decide (f.Ks=6)) (some (((w64 (c+6)),()),())) (some ((0,()),())))) (some ((0,()),()))) (nO g a b (w64 (c+1)) d))) (NC g))
def mL(g:Q_g):Option RT2:=
 (some ((0,()),()))
def sW(g:Q_g)(a:(List o0))(b:(List (b38)))(c:(List d7)):b37:=
 ((y8 16 ([]:List o0) a).bind fun d=>((DD g c).bind fun e=>(cond (!e.1.1) (some ((d,0,()),())) ((f5 c (w64 ((c.length:Int)-1))).bind fun f=>((DC g a b f).bind fun h=>(cond (decide (h.1.1=0)) (some ((d,0,()),())) (vD g c h.1.1 0 d)))))))
def oT(g:Q_g)(a:(List d7))(b:Int)(c:Int)(d:(List o0)):b37:=
 (cond (decide (c<(w64 ((a.length:Int)-1)))) ((Ji g d b).bind fun e=>vD g a e.1.2.1 (w64 (c+1)) e.1.1) (UN g b d))
def cU(g:Q_g)(a:Int)(b:(List o0)):b37:=
 (some ((b,a,()),()))
def cS(g:Q_g)(a:d8)(b:Int)(c:i8):b3U:=
 ((y8 24 ([]:List i8) a.P.Ms).bind fun d=>((f5 d b).bind fun e=>((d[(Int.toNat b)]?).bind fun f=>((Q5 d (Int.toNat b) c).bind fun h=>(some (((d8.mk (l9.mk a.P.No h a.P.To a.P.Rs a.P.Hs a.P.As a.P.Ss a.P.Vars a.P.Ps) a.Rs a.F),()),()))))))
def eB(g:Q_g)(a:d8)(b:Int)(c:Int):b3U:=
 ((N1 g a).bind fun d=>(cond (!d.1.1) ((f5 a.P.No c).bind fun e=>((f5 a.P.No c).bind fun f=>(some (((d8.mk a.P a.Rs (x8.mk b e.Ls f.Id)),()),())))) (some ((a,()),()))))
def bK(g:Q_g)(a:d8)(b:Int):Option N6:=
 ((f5 a.P.No b).bind fun c=>(cond (decide (c.Ks=14)) (some ((0,a,()),())) ((f5 a.P.No b).bind fun d=>(cond (decide (d.Ks=20)) ((pM g a (w64 (b+1))).bind fun e=>((N1 g e.1.2.1).bind fun f=>(cond f.1.1 (some ((0,e.1.2.1,()),())) ((Ji g e.1.2.1.P.To e.1.1).bind fun h=>((Uz g (d8.mk (l9.mk e.1.2.1.P.No e.1.2.1.P.Ms h.1.1 e.1.2.1.P.Rs e.1.2.1.P.Hs e.1.2.1.P.As e.1.2.1.P.Ss e.1.2.1.P.Vars e.1.2.1.P.Ps) e.1.2.1.Rs e.1.2.1.F) b (i8.mk h.1.2.1 0 0)).bind fun j=>(some ((h.1.2.1,j.1.1,()),()))))))) ((okP (C8 b (w64 (b+1)) (a.P.No.length:Int))).bind fun _=>((Pr g a.P.To a.Rs (x6 a.P.No b (w64 (b+1)))).bind fun k=>(cond (decide (k.1.2.1=0)) ((Ux g a 8 b).bind fun l=>(some ((0,l.1.1,()),()))) ((Uz g a b (i8.mk k.1.2.1 0 0)).bind fun m=>(some ((k.1.2.1,m.1.1,()),()))))))))))
def jC(g:Q_g)(a:d8)(b:Int)(c:Int):b3U:=
 ((N1 g a).bind fun d=>(cond (!d.1.1) ((f5 a.P.No c).bind fun e=>((f5 a.P.No c).bind fun f=>(some (((d8.mk a.P a.Rs (x8.mk b e.Ls f.Id)),()),())))) (some ((a,()),()))))
def kL(g:Q_g)(a:d8):b3U:=
 ((aU g a.P.No 2).bind fun b=>Rc g a b 0 a)
def Xp(g:Q_g)(a:d8)(b:RT3)(c:Int)(d:d8):b3U:=
 (cond (decide (c<(b.1.1.length:Int))) (cond (decide (c≥100)) ((f5 b.1.1 c).bind fun e=>((cV g d 13 e).bind fun f=>cG g a b c f.1.1)) (cG g a b c d)) (Qf g a b d))
def Zk(g:Q_g)(a:d8)(b:RT3)(c:Int)(d:d8):b3U:=
 ((f5 b.1.1 c).bind fun e=>((Gf g d e (i8.mk 0 c 0)).bind fun f=>((f5 b.1.1 c).bind fun h=>((f5 a.P.No h).bind fun j=>((y8 16 f.1.1.Rs ([j.Ds]:List (b38))).bind fun k=>KF g a b c f k)))))
def mA(g:Q_g)(a:d8)(b:RT3)(c:Int)(d:d8):b3U:=
 ((okP (C8 (0:Int) c (b.1.1.length:Int))).bind fun _=>((f5 b.1.1 c).bind fun e=>((f5 a.P.No e).bind fun f=>((Lx g a.P.No (x6 b.1.1 (0:Int) c) f.Ds).bind fun h=>(cond h.1.1 ((f5 b.1.1 c).bind fun j=>((cV g d 7 j).bind fun k=>fZ g a b c k.1.1)) (fZ g a b c d))))))
def iA(g:Q_g)(a:d8)(b:RT3)(c:d8):b3U:=
 ((CU g (b.1.1.length:Int)).bind fun d=>sB g a b 0 (d8.mk (l9.mk c.P.No c.P.Ms d.1.1 c.P.Rs c.P.Hs c.P.As c.P.Ss c.P.Vars c.P.Ps) c.Rs c.F))
def Yl(g:Q_g)(a:d8)(b:RT3)(c:Int)(d:l8)(e:(List (b38))):b3U:=
 Rc g a b (w64 (c+1)) (d8.mk d.1.1.P e d.1.1.F)
def Wr(g:Q_g)(a:d8)(b:RT3)(c:Int)(d:d8):b3U:=
 (cond (decide (c<(b.1.1.length:Int))) ((f5 b.1.1 c).bind fun e=>((O4 g a.P.No e).bind fun f=>Oz g a b c f (d.P.Hs.length:Int) c 0 d)) (SM g d))
def Vh(g:Q_g)(a:d8)(b:RT3)(c:Int)(d:RT3)(e:Int)(f:Int)(h:Int)(j:d8):b3U:=
 (cond (decide (h<(d.1.1.length:Int))) (cond (decide (h≥100)) ((f5 d.1.1 h).bind fun k=>((Ux g j 13 k).bind fun l=>Xq g a b c d e h f l.1.1)) (Xq g a b c d e h f j)) (Xo g a b c d e f j))
def aC(g:Q_g)(a:d8):b3U:=
 (some ((a,()),()))
def qK(g:Q_g)(a:d8)(b:RT3)(c:Int)(d:RT3)(e:Int)(f:Int)(h:Int)(j:d8):b3U:=
 ((N1 g j).bind fun k=>(cond k.1.1 (some ((j,()),())) ((f5 d.1.1 f).bind fun l=>((pM g j (w64 (l+1))).bind fun m=>((f5 d.1.1 f).bind fun n=>((Uz g m.1.2.1 n (i8.mk m.1.1 0 0)).bind fun o=>((f5 d.1.1 f).bind fun p=>((f5 a.P.No p).bind fun q=>((y8 24 o.1.1.P.Hs ([(Q3.mk q.Ds m.1.1)]:List Q3)).bind fun s=>GA g a b c d e h f o s)))))))))
def pY(g:Q_g)(a:d8)(b:RT3)(c:Int)(d:RT3)(e:Int)(f:Int)(h:Int)(j:d8):b3U:=
 ((okP (C8 (0:Int) f (d.1.1.length:Int))).bind fun _=>((f5 d.1.1 f).bind fun k=>((f5 a.P.No k).bind fun l=>((Lx g a.P.No (x6 d.1.1 (0:Int) f) l.Ds).bind fun m=>(cond m.1.1 ((f5 d.1.1 f).bind fun n=>((Ux g j 7 n).bind fun o=>Se g a b c d e f h o.1.1)) (Se g a b c d e f h j))))))
def lK(g:Q_g)(a:d8)(b:RT3)(c:Int)(d:RT3)(e:Int)(f:Int)(h:d8):b3U:=
 ((f5 b.1.1 c).bind fun j=>((f5 a.P.No j).bind fun k=>((y8 32 h.P.Rs ([(M9.mk k.Ds e (d.1.1.length:Int))]:List M9)).bind fun l=>JL g a b f h l)))
def gM(g:Q_g)(a:d8)(b:RT3)(c:Int)(d:RT3)(e:Int)(f:Int)(h:Int)(j:l8)(k:(List Q3)):b3U:=
 Oz g a b c d e f (w64 (h+1)) (d8.mk (l9.mk j.1.1.P.No j.1.1.P.Ms j.1.1.P.To j.1.1.P.Rs k j.1.1.P.As j.1.1.P.Ss j.1.1.P.Vars j.1.1.P.Ps) j.1.1.Rs j.1.1.F)
def jL(g:Q_g)(a:d8)(b:RT3)(c:Int)(d:d8)(e:(List M9)):b3U:=
 sB g a b (w64 (c+1)) (d8.mk (l9.mk d.P.No d.P.Ms d.P.To e d.P.Hs d.P.As d.P.Ss d.P.Vars d.P.Ps) d.Rs d.F)
def iS(g:Q_g)(a:(b38)):Option RT2:=
 gE g a 0
def Um(g:Q_g)(a:(b38))(b:Int):Option RT2:=
 (cond (decide (b<(([[],[108,101,110],[116,101,120,116],[114,101],[105,109],[112,97,105,114],[99,104,114],[114,101,97,100],[114,97,110,100]]:List (b38)).length:Int))) ((f5 ([[],[108,101,110],[116,101,120,116],[114,101],[105,109],[112,97,105,114],[99,104,114],[114,101,97,100],[114,97,110,100]]:List (b38)) b).bind fun c=>((([[],[108,101,110],[116,101,120,116],[114,101],[105,109],[112,97,105,114],[99,104,114],[114,101,97,100],[114,97,110,100]]:List (b38))[(Int.toNat b)]?).bind fun d=>(cond (decide (d=a)) (some ((b,()),())) (gE g a (w64 (b+1)))))) (JN g))
def dK(g:Q_g):Option RT2:=
 (some ((0,()),()))
def Zp(g:Q_g)(a:d8)(b:Int)(c:i8):b3U:=
 ((y8 24 ([]:List i8) a.P.Ms).bind fun d=>((f5 d b).bind fun e=>((d[(Int.toNat b)]?).bind fun f=>((Q5 d (Int.toNat b) c).bind fun h=>(some (((d8.mk (l9.mk a.P.No h a.P.To a.P.Rs a.P.Hs a.P.As a.P.Ss a.P.Vars a.P.Ps) a.Rs a.F),()),()))))))
def rE(g:Q_g)(a:d8)(b:Int)(c:Int):b3U:=
 ((N1 g a).bind fun d=>(cond (!d.1.1) ((f5 a.P.No c).bind fun e=>((f5 a.P.No c).bind fun f=>(some (((d8.mk a.P a.Rs (x8.mk b e.Ls f.Id)),()),())))) (some ((a,()),()))))
def lE(g:Q_g)(a:d8)(b:Int):Option N6:=
 ((f5 a.P.No b).bind fun c=>(cond (decide (c.Ks=14)) (some ((0,a,()),())) ((f5 a.P.No b).bind fun d=>(cond (decide (d.Ks=20)) ((Xw g a (w64 (b+1))).bind fun e=>((N1 g e.1.2.1).bind fun f=>(cond f.1.1 (some ((0,e.1.2.1,()),())) ((Ji g e.1.2.1.P.To e.1.1).bind fun h=>((Ol g (d8.mk (l9.mk e.1.2.1.P.No e.1.2.1.P.Ms h.1.1 e.1.2.1.P.Rs e.1.2.1.P.Hs e.1.2.1.P.As e.1.2.1.P.Ss e.1.2.1.P.Vars e.1.2.1.P.Ps) e.1.2.1.Rs e.1.2.1.F) b (i8.mk h.1.2.1 0 0)).bind fun j=>(some ((h.1.2.1,j.1.1,()),()))))))) ((okP (C8 b (w64 (b+1)) (a.P.No.length:Int))).bind fun _=>((Pr g a.P.To a.Rs (x6 a.P.No b (w64 (b+1)))).bind fun k=>(cond (decide (k.1.2.1=0)) ((Hd g a 8 b).bind fun l=>(some ((0,l.1.1,()),()))) ((Ol g a b (i8.mk k.1.2.1 0 0)).bind fun m=>(some ((k.1.2.1,m.1.1,()),()))))))))))
def mD(g:Q_g)(a:d8):b3U:=
 ((aU g a.P.No 4).bind fun b=>Vn g a b 0 a)
def Wc(g:Q_g)(a:d8)(b:RT3)(c:Int)(d:d8):b3U:=
 (cond (decide (c<(b.1.1.length:Int))) ((f5 b.1.1 c).bind fun e=>(cond (decide (c≥100)) ((Hd g d 13 e).bind fun f=>iP g a b c e f.1.1) (iP g a b c e d))) (MC g d))
def Xn(g:Q_g)(a:d8)(b:RT3)(c:Int)(d:Int)(e:RT3)(f:Int)(h:Int)(j:d8):b3U:=
 (cond (decide (f<(w64 ((e.1.1.length:Int)-2)))) (cond (decide (f≥20)) ((f5 e.1.1 f).bind fun k=>((Hd g j 13 k).bind fun l=>Wa g a b c d e f h l.1.1)) (Wa g a b c d e f h j)) (Jf g a b c d e h j))
def pN(g:Q_g)(a:d8)(b:RT3)(c:Int)(d:Int)(e:Int)(f:d8):b3U:=
 ((Hd g f 7 d).bind fun h=>nZ g a b c d e h.1.1)
def dJ(g:Q_g)(a:d8):b3U:=
 (some ((a,()),()))
def oK(g:Q_g)(a:d8)(b:RT3)(c:Int)(d:Int)(e:RT3)(f:Int)(h:Int)(j:d8):b3U:=
 ((N1 g j).bind fun k=>(cond k.1.1 (some ((j,()),())) ((f5 e.1.1 f).bind fun l=>((Xw g j (w64 (l+1))).bind fun m=>((f5 e.1.1 f).bind fun n=>((Ol g m.1.2.1 n (i8.mk m.1.1 0 0)).bind fun o=>MD g a b c d e f h o))))))
def rN(g:Q_g)(a:d8)(b:RT3)(c:Int)(d:Int)(e:RT3)(f:Int)(h:Int)(j:d8):b3U:=
 ((okP (C8 (0:Int) f (e.1.1.length:Int))).bind fun _=>((f5 e.1.1 f).bind fun k=>((f5 a.P.No k).bind fun l=>((Lx g a.P.No (x6 e.1.1 (0:Int) f) l.Ds).bind fun m=>(cond m.1.1 ((f5 e.1.1 f).bind fun n=>((Hd g j 7 n).bind fun o=>Ru g a b c d e f h o.1.1)) (Ru g a b c d e f h j))))))
def cC(g:Q_g)(a:d8)(b:RT3)(c:Int)(d:Int)(e:RT3)(f:Int)(h:d8):b3U:=
 ((N1 g h).bind fun j=>(cond j.1.1 (some ((h,()),())) ((f5 e.1.1 (w64 ((e.1.1.length:Int)-2))).bind fun k=>((Xw g h k).bind fun l=>((Ol g l.1.2.1 d (i8.mk l.1.1 c 0)).bind fun m=>((f5 a.P.No d).bind fun n=>((y8 72 m.1.1.P.As ([(t8.mk n.Ds d (w64 ((e.1.1.length:Int)-2)) l.1.1 0 0 0 0)]:List t8)).bind fun o=>XI g a b f m o)))))))
def bI(g:Q_g)(a:d8)(b:RT3)(c:Int)(d:Int)(e:Int)(f:d8):b3U:=
 ((O4 g a.P.No d).bind fun h=>Lv g a b c d h 0 e f)
def mH(g:Q_g)(a:d8)(b:RT3)(c:Int)(d:Int)(e:RT3)(f:Int)(h:Int)(j:l8):b3U:=
 Lv g a b c d e (w64 (f+1)) h j.1.1
def rV(g:Q_g)(a:d8)(b:RT3)(c:Int)(d:l8)(e:(List t8)):b3U:=
 Vn g a b (w64 (c+1)) (d8.mk (l9.mk d.1.1.P.No d.1.1.P.Ms d.1.1.P.To d.1.1.P.Rs d.1.1.P.Hs e d.1.1.P.Ss d.1.1.P.Vars d.1.1.P.Ps) d.1.1.Rs d.1.1.F)
def Zi(g:Q_g)(a:d8)(b:RT3)(c:Int)(d:Int)(e:d8):b3U:=
 ((okP (C8 (0:Int) c (b.1.1.length:Int))).bind fun _=>((f5 a.P.No d).bind fun f=>((Lx g a.P.No (x6 b.1.1 (0:Int) c) f.Ds).bind fun h=>(cond h.1.1 (pH g a b c d c e) ((f5 a.P.No d).bind fun j=>((kD g j.Ds).bind fun k=>(cond (decide (k.1.1>0)) (pH g a b c d c e) (nZ g a b c d c e))))))))
def eS(g:Q_g)(a:d8)(b:Int)(c:(List v8))(d:(b38))(e:Int)(f:Int)(h:Int):b34:=
 ((f5 a.P.As b).bind fun j=>((y8 40 ([]:List v8) c).bind fun k=>((y8 40 k ([(v8.mk d j.Ss f (a.P.Vars.length:Int))]:List v8)).bind fun l=>((y8 48 a.P.Vars ([(J0.mk b d j.Ss h 0)]:List J0)).bind fun m=>((y8 8 a.P.Ss ([e]:List Int)).bind fun n=>((y8 72 ([]:List t8) a.P.As).bind fun o=>((f5 o b).bind fun p=>((o[(Int.toNat b)]?).bind fun q=>((o[(Int.toNat b)]?).bind fun s=>((Q5 o (Int.toNat b) (t8.mk s.In s.Gs s.Es s.By s.At (w64 (j.Ss+1)) s.Or s.Ps)).bind fun t=>(some ((l,(d8.mk (l9.mk a.P.No a.P.Ms a.P.To a.P.Rs a.P.Hs t n m a.P.Ps) a.Rs a.F),()),()))))))))))))
def Ky(g:Q_g)(a:d8)(b:Int)(c:Int):b3U:=
 ((N1 g a).bind fun d=>(cond (!d.1.1) ((f5 a.P.No c).bind fun e=>((f5 a.P.No c).bind fun f=>(some (((d8.mk a.P a.Rs (x8.mk b e.Ls f.Id)),()),())))) (some ((a,()),()))))
def Yj(g:Q_g)(a:d8)(b:Int)(c:i8):b3U:=
 ((y8 24 ([]:List i8) a.P.Ms).bind fun d=>((f5 d b).bind fun e=>((d[(Int.toNat b)]?).bind fun f=>((Q5 d (Int.toNat b) c).bind fun h=>(some (((d8.mk (l9.mk a.P.No h a.P.To a.P.Rs a.P.Hs a.P.As a.P.Ss a.P.Vars a.P.Ps) a.Rs a.F),()),()))))))
def kC(g:Q_g)(a:d8)(b:Int):Option N6:=
 ((f5 a.P.No b).bind fun c=>(cond (decide (c.Ks=14)) (some ((0,a,()),())) ((f5 a.P.No b).bind fun d=>(cond (decide (d.Ks=20)) ((Si g a (w64 (b+1))).bind fun e=>((N1 g e.1.2.1).bind fun f=>(cond f.1.1 (some ((0,e.1.2.1,()),())) ((Ji g e.1.2.1.P.To e.1.1).bind fun h=>((Fb g (d8.mk (l9.mk e.1.2.1.P.No e.1.2.1.P.Ms h.1.1 e.1.2.1.P.Rs e.1.2.1.P.Hs e.1.2.1.P.As e.1.2.1.P.Ss e.1.2.1.P.Vars e.1.2.1.P.Ps) e.1.2.1.Rs e.1.2.1.F) b (i8.mk h.1.2.1 0 0)).bind fun j=>(some ((h.1.2.1,j.1.1,()),()))))))) ((okP (C8 b (w64 (b+1)) (a.P.No.length:Int))).bind fun _=>((Pr g a.P.To a.Rs (x6 a.P.No b (w64 (b+1)))).bind fun k=>(cond (decide (k.1.2.1=0)) ((Bd g a 8 b).bind fun l=>(some ((0,l.1.1,()),()))) ((Fb g a b (i8.mk k.1.2.1 0 0)).bind fun m=>(some ((k.1.2.1,m.1.1,()),()))))))))))
def cH(g:Q_g)(a:d8)(b:Int)(c:(List v8))(d:Int):b3U:=
 Iq g b c d d a
def Mc(g:Q_g)(a:Int)(b:(List v8))(c:Int)(d:Int)(e:d8):b3U:=
 ((f5 e.P.No c).bind fun f=>(cond (decide (d≤(w64 (c+f.Cs)))) ((N1 g e).bind fun h=>(cond h.1.1 (some ((e,()),())) ((f5 e.P.No d).bind fun j=>(cond (decide (j.Ks=26)) (Po g a b c d (-1) 0 e j) (cond (decide (j.Ks=27)) ((rI g e j.Ds).bind fun k=>(cond (decide (k.1.1<0)) ((kD g j.Ds).bind fun l=>(cond (decide ((w64 (0-l.1.1))=0)) ((Bd g e 8 d).bind fun m=>(some ((m.1.1,()),()))) (fN g a b c d (w64 (0-l.1.1)) e))) (fN g a b c d k.1.1 e))) (cond (decide (j.Ks=32)) ((Si g e (w64 (d+1))).bind fun n=>((Fb g n.1.2.1 d (i8.mk n.1.1 0 0)).bind fun o=>Ly g a b c d o.1.1)) (Ly g a b c d e))))))) (ME g e)))
def Td(g:Q_g)(a:Int)(b:(List v8))(c:Int)(d:Int)(e:Int)(f:Int)(h:d8)(j:d7):b3U:=
 (cond (decide (f<(b.length:Int))) ((f5 b f).bind fun k=>(cond (decide (k.In=j.Ds)) ((f5 b f).bind fun l=>Po g a b c d l.Ws (w64 (f+1)) h j) (Po g a b c d e (w64 (f+1)) h j))) (ET g a b c d e h))
def iW(g:Q_g)(a:Int)(b:(List v8))(c:Int)(d:Int)(e:Int)(f:d8):b3U:=
 ((Fb g f d (i8.mk 0 e 0)).bind fun h=>Ly g a b c d h.1.1)
def Qk(g:Q_g)(a:d8):b3U:=
 (some ((a,()),()))
def sQ(g:Q_g)(a:Int)(b:(List v8))(c:Int)(d:Int)(e:Int)(f:d8):b3U:=
 (cond (decide (e<0)) ((Bd g f 8 d).bind fun h=>(some ((h.1.1,()),()))) ((f5 f.P.As a).bind fun j=>((f5 f.P.Ss (w64 (j.At+e))).bind fun k=>((f.P.Ss[(Int.toNat (w64 (j.At+e)))]?).bind fun l=>((Fb g f d (i8.mk l e 0)).bind fun m=>Ly g a b c d m.1.1)))))
def Ip(g:Q_g)(a:Int)(b:(List v8))(c:Int)(d:Int)(e:d8):b3U:=
 Iq g a b c (w64 (d+1)) e
def rR(g:Q_g)(a:d8)(b:Int)(c:(List v8))(d:Int)(e:Int):b34:=
 ((f5 a.P.No e).bind fun f=>((y8 32 a.P.Ps ([(N4.mk b e f.Ls f.Id)]:List N4)).bind fun h=>((Fb g (d8.mk (l9.mk a.P.No a.P.Ms a.P.To a.P.Rs a.P.Hs a.P.As a.P.Ss a.P.Vars h) a.Rs a.F) e (i8.mk 0 0 (a.P.Ps.length:Int))).bind fun j=>((O4 g j.1.1.P.No e).bind fun k=>(cond (!(decide (f.Ks=7))) (Oh g b c k 0 j.1.1) ((f5 k.1.1 0).bind fun l=>((k.1.1[(Int.toNat 0)]?).bind fun m=>((Si g j.1.1 m).bind fun n=>((N1 g n.1.2.1).bind fun o=>(cond (!o.1.1) ((f5 k.1.1 1).bind fun p=>((k.1.1[(Int.toNat 1)]?).bind fun q=>((qS g n.1.2.1 b c q).bind fun s=>sH g b c d e a n s.1.1 f))) (sH g b c d e a n n.1.2.1 f)))))))))))
def Tl(g:Q_g)(a:Int)(b:(List v8))(c:RT3)(d:Int)(e:d8):b34:=
 (cond (decide (d<(c.1.1.length:Int))) ((N1 g e).bind fun f=>(cond f.1.1 (some ((b,e,()),())) ((f5 c.1.1 d).bind fun h=>((c.1.1[(Int.toNat d)]?).bind fun j=>((f5 e.P.No j).bind fun k=>(cond (decide (k.Ks=6)) ((f5 c.1.1 d).bind fun l=>((c.1.1[(Int.toNat d)]?).bind fun m=>((iF g e a b m).bind fun n=>Oh g a b c (w64 (d+1)) n.1.1))) ((f5 c.1.1 d).bind fun o=>((c.1.1[(Int.toNat d)]?).bind fun p=>((qS g e a b p).bind fun q=>Oh g a b c (w64 (d+1)) q.1.1))))))))) (OZ g b e))
def Xc(g:Q_g)(a:Int)(b:(List v8))(c:Int)(d:Int)(e:d8)(f:N6)(h:Int)(j:d8)(k:d7):b34:=
 (cond (decide (h<(b.length:Int))) ((f5 b h).bind fun l=>(cond (decide (l.In=k.Ds)) ((f5 b h).bind fun m=>(cond (decide (m.Xs=c)) ((Bd g j 7 d).bind fun n=>Pw g a b c d e f (w64 (h+1)) n.1.1 k) (Pw g a b c d e f (w64 (h+1)) j k))) (Pw g a b c d e f (w64 (h+1)) j k))) (wI g a b c d e f j k))
def qD(g:Q_g)(a:Int)(b:(List v8))(c:Int)(d:Int)(e:d8)(f:N6)(h:d8)(j:d7):b34:=
 Pw g a b c d e f 0 h j
def eN(g:Q_g)(a:(List v8))(b:d8):b34:=
 (some ((a,b,()),()))
def Yo(g:Q_g)(a:Int)(b:(List v8))(c:Int)(d:Int)(e:d8)(f:N6)(h:d8)(j:d7):b34:=
 ((f5 h.P.As a).bind fun k=>(cond (decide (k.Ss≥200)) ((Bd g h 13 d).bind fun l=>jQ g a b c d e f l.1.1 j) (jQ g a b c d e f h j)))
def mG(g:Q_g)(a:Int)(b:(List v8))(c:Int)(d:Int)(e:d8)(f:N6)(h:d8)(j:d7):b34:=
 ((N1 g h).bind fun k=>(cond k.1.1 (some ((b,h,()),())) ((f5 h.P.As a).bind fun l=>((Fb g h d (i8.mk f.1.1 l.Ss (e.P.Ps.length:Int))).bind fun m=>((cM g m.1.1 a b j.Ds f.1.1 c (m.1.1.P.Ps.length:Int)).bind fun n=>(some ((n.1.1,n.1.2.1,()),())))))))
def bO(g:Q_g)(a:d8)(b:Int)(c:(List v8))(d:Int):b3U:=
 ((O4 g a.P.No d).bind fun e=>aQ g b c d e 0 a)
def Wi(g:Q_g)(a:Int)(b:(List v8))(c:Int)(d:RT3)(e:Int)(f:d8):b3U:=
 (cond (decide (e<(d.1.1.length:Int))) ((N1 g f).bind fun h=>(cond h.1.1 (some ((f,()),())) ((f5 d.1.1 e).bind fun j=>((d.1.1[(Int.toNat e)]?).bind fun k=>((DN g f a b c k).bind fun l=>aQ g a l.1.1 c d (w64 (e+1)) l.1.2.1))))) (BG g b c f))
def rT(g:Q_g)(a:(List v8))(b:Int)(c:d8):b3U:=
 ((y8 48 ([]:List J0) c.P.Vars).bind fun d=>Vj g a b 0 c d)
def Ww(g:Q_g)(a:(List v8))(b:Int)(c:Int)(d:d8)(e:(List J0)):b3U:=
 (cond (decide (c<(a.length:Int))) ((f5 a c).bind fun f=>(cond (decide (f.Xs=b)) ((f5 a c).bind fun h=>((f5 e h.At).bind fun j=>((e[(Int.toNat h.At)]?).bind fun k=>((e[(Int.toNat h.At)]?).bind fun l=>((Q5 e (Int.toNat h.At) (J0.mk l.Fn l.In l.Ws l.Or (d.P.Ps.length:Int))).bind fun m=>Vj g a b (w64 (c+1)) d m))))) (Vj g a b (w64 (c+1)) d e))) (YP g d e))
def pJ(g:Q_g)(a:d8)(b:(List J0)):b3U:=
 (some (((d8.mk (l9.mk a.P.No a.P.Ms a.P.To a.P.Rs a.P.Hs a.P.As a.P.Ss b a.P.Ps) a.Rs a.F),()),()))
def bW(g:Q_g)(a:d8)(b:Int):b3U:=
 ((y8 72 ([]:List t8) a.P.As).bind fun c=>((f5 c b).bind fun d=>((c[(Int.toNat b)]?).bind fun e=>((c[(Int.toNat b)]?).bind fun f=>((Q5 c (Int.toNat b) (t8.mk f.In f.Gs f.Es f.By (a.P.Ss.length:Int) f.Ss f.Or f.Ps)).bind fun h=>((f5 h b).bind fun j=>((h[(Int.toNat b)]?).bind fun k=>((h[(Int.toNat b)]?).bind fun l=>((Q5 h (Int.toNat b) (t8.mk l.In l.Gs l.Es l.By l.At l.Ss (a.P.Ps.length:Int) l.Ps)).bind fun m=>((f5 m b).bind fun n=>((m[(Int.toNat b)]?).bind fun o=>((m[(Int.toNat b)]?).bind fun p=>((O4 g a.P.No p.Gs).bind fun q=>Xt g b q 0 (d8.mk (l9.mk a.P.No a.P.Ms a.P.To a.P.Rs a.P.Hs m a.P.Ss a.P.Vars a.P.Ps) a.Rs a.F) ([]:List v8))))))))))))))
def Xx(g:Q_g)(a:Int)(b:RT3)(c:Int)(d:d8)(e:(List v8)):b3U:=
 (cond (decide (c<(w64 ((b.1.1.length:Int)-2)))) ((f5 b.1.1 c).bind fun f=>((b.1.1[(Int.toNat c)]?).bind fun h=>((f5 d.P.No h).bind fun j=>((f5 b.1.1 c).bind fun k=>((b.1.1[(Int.toNat c)]?).bind fun l=>((f5 d.P.Ms l).bind fun m=>((f5 b.1.1 (w64 ((w64 ((b.1.1.length:Int)-2))+1))).bind fun n=>((b.1.1[(Int.toNat (w64 ((w64 ((b.1.1.length:Int)-2))+1)))]?).bind fun o=>((cM g d a e j.Ds m.Ts o (d.P.Ps.length:Int)).bind fun p=>Xt g a b (w64 (c+1)) p.1.2.1 p.1.1))))))))) (yA g a b d e))
def Yt(g:Q_g)(a:Int)(b:RT3)(c:d8)(d:(List v8)):b3U:=
 ((f5 b.1.1 (w64 ((w64 ((b.1.1.length:Int)-2))+1))).bind fun e=>((b.1.1[(Int.toNat (w64 ((w64 ((b.1.1.length:Int)-2))+1)))]?).bind fun f=>((iF g c a d f).bind fun h=>((y8 72 ([]:List t8) h.1.1.P.As).bind fun j=>((f5 j a).bind fun k=>((j[(Int.toNat a)]?).bind fun l=>((j[(Int.toNat a)]?).bind fun m=>((f5 j a).bind fun n=>((j[(Int.toNat a)]?).bind fun o=>((j[(Int.toNat a)]?).bind fun p=>((Q5 j (Int.toNat a) (t8.mk p.In p.Gs p.Es p.By p.At p.Ss p.Or (w64 ((h.1.1.P.Ps.length:Int)-m.Or)))).bind fun q=>(some (((d8.mk (l9.mk h.1.1.P.No h.1.1.P.Ms h.1.1.P.To h.1.1.P.Rs h.1.1.P.Hs q h.1.1.P.Ss h.1.1.P.Vars h.1.1.P.Ps) h.1.1.Rs h.1.1.F),()),())))))))))))))
def fW(g:Q_g)(a:(List d7)):b32:=
 ((oB g a).bind fun b=>(cond (!b.1.1) (some (((l9.mk ([]:List d7) ([]:List i8) ([]:List o0) ([]:List M9) ([]:List Q3) ([]:List t8) ([]:List Int) ([]:List J0) ([]:List N4)),(x8.mk 1 0 0),()),())) ((okP (Hz 24 (a.length:Int))).bind fun _=>((AB g (d8.mk (l9.mk a (List.replicate (Int.toNat (a.length:Int)) ((i8.mk 0 0 0):i8)) ([]:List o0) ([]:List M9) ([]:List Q3) ([]:List t8) ([]:List Int) ([]:List J0) ([]:List N4)) ([]:List (b38)) (x8.mk 0 0 0))).bind fun c=>((N1 g c.1.1).bind fun d=>(cond (!d.1.1) ((uR g c.1.1).bind fun e=>lJ g e.1.1) (lJ g c.1.1)))))))
def Jw(g:Q_g)(a:Int)(b:Int)(c:d8):b32:=
 (cond (decide (b<a)) ((N1 g c).bind fun d=>(cond (!d.1.1) ((uN g c b).bind fun e=>He g a (w64 (b+1)) e.1.1) (He g a (w64 (b+1)) c))) (Tm g c))
def Vt(g:Q_g)(a:d8):b32:=
 He g (a.P.As.length:Int) 0 a
def Zo(g:Q_g)(a:RT2)(b:d8):b32:=
 ((f5 b.P.As a.1.1).bind fun c=>((b.P.As[(Int.toNat a.1.1)]?).bind fun d=>((b.P.As[(Int.toNat a.1.1)]?).bind fun e=>((Hd g b 11 e.Gs).bind fun f=>Ka g f.1.1))))
def kR(g:Q_g)(a:d8):b32:=
 ((N1 g a).bind fun b=>(cond (!b.1.1) ((rI g a ([109,97,105,110]:b38)).bind fun c=>(cond (decide (c.1.1<0)) (Ka g (d8.mk a.P a.Rs (x8.mk 11 0 0))) ((f5 a.P.As c.1.1).bind fun d=>((a.P.As[(Int.toNat c.1.1)]?).bind fun e=>((a.P.As[(Int.toNat c.1.1)]?).bind fun f=>(cond (decide (f.Es>0)) (qP g c a) ((f5 a.P.As c.1.1).bind fun h=>((a.P.As[(Int.toNat c.1.1)]?).bind fun j=>((a.P.As[(Int.toNat c.1.1)]?).bind fun k=>(cond (!(decide (k.By=0))) (qP g c a) (Ka g a))))))))))) (Ka g a)))
def Qd(g:Q_g)(a:d8):b32:=
 ((N1 g a).bind fun b=>(cond b.1.1 (some (((l9.mk ([]:List d7) ([]:List i8) ([]:List o0) ([]:List M9) ([]:List Q3) ([]:List t8) ([]:List Int) ([]:List J0) ([]:List N4)),a.F,()),())) (some ((a.P,(x8.mk 0 0 0),()),()))))
def sM(g:Q_g)(a:i9)(b:Int)(c:Int):Option RT4:=
 (cond (decide (a.F.Code=0)) ((f5 a.L c).bind fun d=>((f5 a.L c).bind fun e=>(some (((i9.mk a.L a.M a.P a.T (x8.mk b d.Ls e.Id) a.By),()),())))) (some ((a,()),())))
def qR(g:Q_g)(a:i9)(b:Bool)(c:Int):Option RT4:=
 (cond b (some ((a,()),())) ((Eh g a 9 c).bind fun d=>(some ((d.1.1,()),()))))
def dL(g:Q_g)(a:(List o0))(b:Int)(c:Int):Option RT0:=
 (cond (decide (b<0)) (some ((false,()),())) (cond (decide (c<0)) (some ((false,()),())) (cond (decide (b≥(a.length:Int))) (some ((false,()),())) (cond (decide (c≥(a.length:Int))) (some ((false,()),())) (cond (decide (b=5)) ((f5 a c).bind fun d=>(cond (decide (d.Ks=6)) (some ((true,()),())) ((f5 a c).bind fun e=>(cond (decide (e.Ks=7)) (some ((true,()),())) (some (((decide (b=c)),()),())))))) (some (((decide (b=c)),()),())))))))
def cQ(g:Q_g)(a:i9)(b:Int)(c:Int):Option RT0:=
 ((AY g a.T b c).bind fun d=>(some ((d.1.1,()),())))
def iB(g:Q_g)(a:Int):Option Fm:=
 ((f5 ([[],[108],[115],[99],[99],[105,105],[105],[],[105]]:List (b38)) a).bind fun b=>((([[],[108],[115],[99],[99],[105,105],[105],[],[105]]:List (b38))[(Int.toNat a)]?).bind fun c=>((f5 ([0,1,3,1,1,4,3,1,1]:List Int) a).bind fun d=>((([0,1,3,1,1,4,3,1,1]:List Int)[(Int.toNat a)]?).bind fun e=>(some ((c,e,()),()))))))
def oN(g:Q_g)(a:i9)(b:Int):Option RT2:=
 ((f5 a.T b).bind fun c=>(some ((c.Ks,()),())))
def gO(g:Q_g)(a:i9)(b:Int)(c:Int):Option RT0:=
 (cond (decide (c=105)) (some (((decide (b=1)),()),())) (cond (decide (c=99)) (some (((decide (b=4)),()),())) (cond (decide (c=108)) (cond (decide (b=3)) (some ((true,()),())) ((Lf g a b).bind fun d=>(some (((decide (d.1.1=7)),()),())))) (cond (decide (b=1)) (some ((true,()),())) (cond (decide (b=2)) (some ((true,()),())) (some (((decide (b=4)),()),())))))))
def lB(g:Q_g)(a:i9)(b:Int):b3W:=
 ((O4 g a.L b).bind fun c=>Xh g b c 0 a ([]:List Int))
def Re(g:Q_g)(a:Int)(b:RT3)(c:Int)(d:i9)(e:(List Int)):b3W:=
 (cond (decide (c<(b.1.1.length:Int))) ((f5 b.1.1 c).bind fun f=>((b.1.1[(Int.toNat c)]?).bind fun h=>((Q8 g d h).bind fun j=>((y8 8 e ([j.1.1]:List Int)).bind fun k=>Xh g a b (w64 (c+1)) j.1.2.1 k)))) (AD g a d b e))
def Zh(g:Q_g)(a:Int)(b:i9)(c:RT3)(d:(List Int)):b3W:=
 (cond (!(decide (b.F.Code=0))) (some ((0,b,()),())) ((f5 b.M a).bind fun e=>(cond (decide (e.Do<0)) ((CW g (w64 (0-e.Do))).bind fun f=>(cond (!(decide ((f.1.1.length:Int)=(c.1.1.length:Int)))) ((Eh g b 10 a).bind fun h=>(some ((0,h.1.1,()),()))) (Vb g f c 0 b d))) ((f5 b.P.As e.Do).bind fun j=>(cond (!(decide (j.Es=(c.1.1.length:Int)))) ((Eh g b 10 a).bind fun k=>(some ((0,k.1.1,()),()))) (Pz g c 0 b j d))))))
def Up(g:Q_g)(a:Fm)(b:RT3)(c:Int)(d:i9)(e:(List Int)):b3W:=
 (cond (decide (c<(b.1.1.length:Int))) ((f5 e c).bind fun f=>((e[(Int.toNat c)]?).bind fun h=>((f5 a.1.1 c).bind fun j=>((wA g d h (j.toNat:Int)).bind fun k=>((f5 b.1.1 c).bind fun l=>((b.1.1[(Int.toNat c)]?).bind fun m=>((J5 g d k.1.1 m).bind fun n=>Vb g a b (w64 (c+1)) n.1.1 e))))))) (DQ g a d))
def Wl(g:Q_g)(a:RT3)(b:Int)(c:i9)(d:t8)(e:(List Int)):b3W:=
 (cond (decide (b<(a.1.1.length:Int))) ((f5 e b).bind fun f=>((e[(Int.toNat b)]?).bind fun h=>((f5 c.P.Ss (w64 (d.At+b))).bind fun j=>((Ae g c h j).bind fun k=>((f5 a.1.1 b).bind fun l=>((a.1.1[(Int.toNat b)]?).bind fun m=>((J5 g c k.1.1 m).bind fun n=>Pz g a (w64 (b+1)) n.1.1 d e))))))) (xT g c d))
def fY(g:Q_g)(a:Fm)(b:i9):b3W:=
 (some ((a.1.2.1,b,()),()))
def nD(g:Q_g)(a:i9)(b:t8):b3W:=
 (some ((b.By,a,()),()))
def jD(g:Q_g)(a:i9)(b:Int)(c:Int):b3W:=
 ((Q8 g a c).bind fun d=>(cond (!(decide (d.1.2.1.F.Code=0))) (eG g c d) ((Lf g d.1.2.1 d.1.1).bind fun e=>(cond (!(decide (e.1.1=6))) (eG g c d) ((f5 d.1.2.1.T d.1.1).bind fun f=>((f5 d.1.2.1.P.Rs f.Of).bind fun h=>Tq g b 0 d h))))))
def pQ(g:Q_g)(a:Int)(b:A5):b3W:=
 ((Eh g b.1.2.1 9 a).bind fun c=>(some ((0,c.1.1,()),())))
def Tn(g:Q_g)(a:Int)(b:Int)(c:A5)(d:M9):b3W:=
 (cond (decide (b<d.Vs)) ((f5 c.1.2.1.P.Hs (w64 (d.Us+b))).bind fun e=>((f5 c.1.2.1.L a).bind fun f=>(cond (decide (e.In=f.Ds)) ((y8 24 ([]:List i8) c.1.2.1.M).bind fun h=>((f5 h a).bind fun j=>((h[(Int.toNat a)]?).bind fun k=>((h[(Int.toNat a)]?).bind fun l=>((Q5 h (Int.toNat a) (i8.mk l.Ts b l.Qs)).bind fun m=>(some ((e.Ts,(i9.mk c.1.2.1.L m c.1.2.1.P c.1.2.1.T c.1.2.1.F c.1.2.1.By),()),()))))))) (Tq g a (w64 (b+1)) c d)))) (NO g a c))
def nN(g:Q_g)(a:Int)(b:A5):b3W:=
 ((Eh g b.1.2.1 8 a).bind fun c=>(some ((0,c.1.1,()),())))
def sS(g:Q_g)(a:i9)(b:Int)(c:Int)(d:Int):Option RT2:=
 ((Lf g a c).bind fun e=>((Lf g a d).bind fun f=>(cond (decide (b=6)) (bD g c d e f a) (cond (decide (b=7)) (bD g c d e f a) (cond (!(decide (c=d))) (some ((0,()),())) (cond (decide (b=14)) (dI g c) (cond (decide (b=15)) (dI g c) (cond (decide (b≥8)) (cond (decide (c=1)) (some ((2,()),())) (Gc g)) (cond (decide (c=1)) (some ((1,()),())) (cond (decide (c=4)) (cond (decide (b≤3)) (some ((4,()),())) (dS g b c)) (dS g b c)))))))))))
def Za(g:Q_g)(a:Int)(b:Int):Option RT2:=
 (cond (decide (a=b)) (cond (decide (a>0)) (some ((2,()),())) (Gc g)) (Gc g))
def oS(g:Q_g)(a:Int)(b:Int)(c:RT2)(d:RT2)(e:i9):Option RT2:=
 (cond (decide (c.1.1≥5)) (cond (decide (d.1.1≥5)) (cond (!(decide (c.1.1=5))) ((Ae g e a b).bind fun f=>(cond f.1.1 (some ((2,()),())) ((Ae g e b a).bind fun h=>(cond h.1.1 (some ((2,()),())) (some ((0,()),())))))) (cond (!(decide (d.1.1=5))) ((Ae g e a b).bind fun f=>(cond f.1.1 (some ((2,()),())) ((Ae g e b a).bind fun h=>(cond h.1.1 (some ((2,()),())) (some ((0,()),())))))) (some ((0,()),())))) (pW g a b)) (pW g a b))
def iG(g:Q_g)(a:Int):Option RT2:=
 (cond (decide (a=2)) (some ((2,()),())) (Gc g))
def lL(g:Q_g)(a:Int)(b:Int):Option RT2:=
 (cond (decide (b=3)) (cond (decide (a=1)) (some ((3,()),())) (Gc g)) (Gc g))
def AP(g:Q_g):Option RT2:=
 (some ((0,()),()))
def fC(g:Q_g)(a:i9)(b:Int)(c:Int):Option RT4:=
 ((y8 24 ([]:List i8) a.M).bind fun d=>((f5 d b).bind fun e=>((d[(Int.toNat b)]?).bind fun f=>((d[(Int.toNat b)]?).bind fun h=>((Q5 d (Int.toNat b) (i8.mk c h.Do h.Qs)).bind fun j=>(some (((i9.mk a.L j a.P a.T a.F a.By),()),())))))))
def Zm(g:Q_g)(a:i9)(b:Int):b3W:=
 (cond (!(decide (a.F.Code=0))) (some ((0,a,()),())) ((f5 a.L b).bind fun c=>((O4 g a.L b).bind fun d=>((f5 a.M b).bind fun e=>(cond (decide (c.Ks≥21)) (cond (decide (c.Ks≤25)) ((f5 ([1,4,3,2,5]:List Int) (IntKind.wrap .u8 (c.Ks-21))).bind fun f=>((([1,4,3,2,5]:List Int)[(Int.toNat (IntKind.wrap .u8 (c.Ks-21)))]?).bind fun h=>I9 g b h a)) (wC g b e a c d)) (wC g b e a c d))))))
def pR(g:Q_g)(a:Int)(b:Int)(c:i9):b3W:=
 ((tV g c a b).bind fun d=>(some ((b,d.1.1,()),())))
def gU(g:Q_g)(a:Int)(b:Int)(c:A5)(d:RT3):b3W:=
 ((f5 d.1.1 0).bind fun e=>((d.1.1[(Int.toNat 0)]?).bind fun f=>((J5 g c.1.2.1 (decide (b>0)) f).bind fun h=>((f5 d.1.1 1).bind fun j=>((d.1.1[(Int.toNat 1)]?).bind fun k=>((J5 g h.1.1 (decide (c.1.1=1)) k).bind fun l=>I9 g a b l.1.1))))))
def bE(g:Q_g)(a:Int)(b:Int)(c:A5)(d:A5)(e:RT3):b3W:=
 (cond (decide (c.1.1=3)) (bG g a 1 d e) (bG g a b d e))
def qO(g:Q_g)(a:Int)(b:i8)(c:i9)(d:d7)(e:RT3):b3W:=
 (cond (decide (d.Ks=27)) ((yT g c a).bind fun f=>I9 g a f.1.1 f.1.2.1) (cond (decide (d.Ks=28)) ((f5 e.1.1 0).bind fun h=>((e.1.1[(Int.toNat 0)]?).bind fun j=>((Q8 g c j).bind fun k=>((f5 e.1.1 1).bind fun l=>((e.1.1[(Int.toNat 1)]?).bind fun m=>((Q8 g k.1.2.1 m).bind fun n=>((Lf g n.1.2.1 k.1.1).bind fun o=>(cond (decide (o.1.1=7)) ((f5 n.1.2.1.T k.1.1).bind fun p=>iK g a p.Of k n e) (iK g a 0 k n e))))))))) (cond (decide (d.Ks=29)) ((f5 e.1.1 0).bind fun q=>((e.1.1[(Int.toNat 0)]?).bind fun s=>((GN g c a s).bind fun t=>I9 g a t.1.1 t.1.2.1))) (cond (decide (d.Ks=30)) ((f5 e.1.1 0).bind fun u=>((e.1.1[(Int.toNat 0)]?).bind fun v=>((Q8 g c v).bind fun w=>(cond (decide (d.Ns=13)) (cond (decide (w.1.1=2)) ((f5 e.1.1 0).bind fun y=>((e.1.1[(Int.toNat 0)]?).bind fun z=>((J5 g w.1.2.1 true z).bind fun a1=>I9 g a w.1.1 a1.1.1))) (cond (decide (d.Ns=12)) (cond (decide (w.1.1=1)) ((f5 e.1.1 0).bind fun y=>((e.1.1[(Int.toNat 0)]?).bind fun z=>((J5 g w.1.2.1 true z).bind fun a1=>I9 g a w.1.1 a1.1.1))) ((f5 e.1.1 0).bind fun y=>((e.1.1[(Int.toNat 0)]?).bind fun z=>((J5 g w.1.2.1 (decide (w.1.1=4)) z).bind fun a1=>I9 g a w.1.1 a1.1.1)))) ((f5 e.1.1 0).bind fun y=>((e.1.1[(Int.toNat 0)]?).bind fun z=>((J5 g w.1.2.1 false z).bind fun a1=>I9 g a w.1.1 a1.1.1))))) (cond (decide (d.Ns=12)) (cond (decide (w.1.1=1)) ((f5 e.1.1 0).bind fun y=>((e.1.1[(Int.toNat 0)]?).bind fun z=>((J5 g w.1.2.1 true z).bind fun a1=>I9 g a w.1.1 a1.1.1))) ((f5 e.1.1 0).bind fun y=>((e.1.1[(Int.toNat 0)]?).bind fun z=>((J5 g w.1.2.1 (decide (w.1.1=4)) z).bind fun a1=>I9 g a w.1.1 a1.1.1)))) ((f5 e.1.1 0).bind fun y=>((e.1.1[(Int.toNat 0)]?).bind fun z=>((J5 g w.1.2.1 false z).bind fun a1=>I9 g a w.1.1 a1.1.1)))))))) (cond (decide (d.Ks=31)) ((f5 e.1.1 0).bind fun b1=>((e.1.1[(Int.toNat 0)]?).bind fun c1=>((Q8 g c c1).bind fun d1=>((f5 e.1.1 1).bind fun e1=>((e.1.1[(Int.toNat 1)]?).bind fun f1=>((Q8 g d1.1.2.1 f1).bind fun h1=>((xN g h1.1.2.1 d.Ns d1.1.1 h1.1.1).bind fun j1=>((J5 g h1.1.2.1 (decide (j1.1.1>0)) a).bind fun k1=>I9 g a j1.1.1 k1.1.1)))))))) (cond (decide (d.Ks=32)) (cond (decide ((e.1.1.length:Int)=2)) ((f5 e.1.1 1).bind fun l1=>((e.1.1[(Int.toNat 1)]?).bind fun m1=>((Q8 g c m1).bind fun n1=>((f5 e.1.1 1).bind fun o1=>((e.1.1[(Int.toNat 1)]?).bind fun p1=>((J5 g n1.1.2.1 (decide (n1.1.1=1)) p1).bind fun q1=>I9 g a b.Ts q1.1.1)))))) (I9 g a b.Ts c)) (I9 g a b.Ts c)))))))
def Gv(g:Q_g)(a:i9)(b:Int):b36:=
 (cond (!(decide (a.F.Code=0))) (some ((false,a,()),())) ((O4 g a.L b).bind fun c=>((f5 a.L b).bind fun d=>(cond (decide (d.Ks=7)) ((f5 c.1.1 1).bind fun e=>((c.1.1[(Int.toNat 1)]?).bind fun f=>((Q8 g a f).bind fun h=>((f5 h.1.2.1.M b).bind fun j=>((Ae g h.1.2.1 h.1.1 j.Ts).bind fun k=>((f5 c.1.1 1).bind fun l=>((c.1.1[(Int.toNat 1)]?).bind fun m=>((J5 g h.1.2.1 k.1.1 m).bind fun n=>(some ((false,n.1.1,()),())))))))))) (cond (decide (d.Ks=8)) ((f5 c.1.1 0).bind fun o=>((c.1.1[(Int.toNat 0)]?).bind fun p=>((Q8 g a p).bind fun q=>((f5 c.1.1 1).bind fun s=>((c.1.1[(Int.toNat 1)]?).bind fun t=>((Q8 g q.1.2.1 t).bind fun u=>(cond (decide (u.1.2.1.F.Code=0)) ((f5 c.1.1 0).bind fun v=>((c.1.1[(Int.toNat 0)]?).bind fun w=>((f5 u.1.2.1.L w).bind fun y=>(cond (decide (y.Ks=28)) ((f5 c.1.1 0).bind fun z=>((c.1.1[(Int.toNat 0)]?).bind fun a1=>((f5 u.1.2.1.M (w64 (a1+1))).bind fun b1=>(cond (decide (b1.Ts=3)) ((f5 c.1.1 0).bind fun c1=>((c.1.1[(Int.toNat 0)]?).bind fun d1=>((Eh g u.1.2.1 9 d1).bind fun e1=>Mg g q u e1.1.1 c))) (Mg g q u u.1.2.1 c))))) (Mg g q u u.1.2.1 c))))) (Mg g q u u.1.2.1 c)))))))) (cond (decide (d.Ks=9)) (fT g a c) (cond (decide (d.Ks=10)) (fT g a c) (cond (decide (d.Ks=11)) (cond (decide ((c.1.1.length:Int)=0)) ((J5 g a (decide (a.By=0)) b).bind fun f1=>(some ((true,f1.1.1,()),()))) ((f5 c.1.1 0).bind fun h1=>((c.1.1[(Int.toNat 0)]?).bind fun j1=>((Q8 g a j1).bind fun k1=>(cond (!(decide (a.By=0))) ((Ae g k1.1.2.1 k1.1.1 a.By).bind fun l1=>((f5 c.1.1 0).bind fun m1=>((c.1.1[(Int.toNat 0)]?).bind fun n1=>((J5 g k1.1.2.1 l1.1.1 n1).bind fun o1=>(some ((true,o1.1.1,()),())))))) ((f5 c.1.1 0).bind fun m1=>((c.1.1[(Int.toNat 0)]?).bind fun n1=>((J5 g k1.1.2.1 false n1).bind fun o1=>(some ((true,o1.1.1,()),())))))))))) (cond (decide (d.Ks=12)) ((f5 c.1.1 0).bind fun p1=>((c.1.1[(Int.toNat 0)]?).bind fun q1=>((Q8 g a q1).bind fun s1=>((f5 c.1.1 0).bind fun t1=>((c.1.1[(Int.toNat 0)]?).bind fun u1=>((J5 g s1.1.2.1 (!(decide (s1.1.1=0))) u1).bind fun v1=>(some ((false,v1.1.1,()),())))))))) ((f5 c.1.1 0).bind fun w1=>((c.1.1[(Int.toNat 0)]?).bind fun y1=>((Q8 g a y1).bind fun z1=>(some ((false,z1.1.2.1,()),()))))))))))))))
def gX(g:Q_g)(a:A5)(b:A5)(c:i9)(d:RT3):b36:=
 ((Ae g c b.1.1 a.1.1).bind fun e=>((f5 d.1.1 1).bind fun f=>((d.1.1[(Int.toNat 1)]?).bind fun h=>((J5 g c e.1.1 h).bind fun j=>(some ((false,j.1.1,()),()))))))
def Sn(g:Q_g)(a:Bool)(b:Int)(c:i9)(d:RT3):b36:=
 (cond (decide (b<(d.1.1.length:Int))) ((f5 d.1.1 b).bind fun e=>((d.1.1[(Int.toNat b)]?).bind fun f=>((qI g c f).bind fun h=>(cond a (Om g h.1.1 (w64 (b+1)) h.1.2.1 d) (Om g false (w64 (b+1)) h.1.2.1 d))))) (LM g a c))
def Yx(g:Q_g)(a:i9)(b:RT3):b36:=
 ((f5 b.1.1 0).bind fun c=>((b.1.1[(Int.toNat 0)]?).bind fun d=>((Q8 g a d).bind fun e=>((f5 b.1.1 0).bind fun f=>((b.1.1[(Int.toNat 0)]?).bind fun h=>((J5 g e.1.2.1 (decide (e.1.1=2)) h).bind fun j=>Om g (decide ((b.1.1.length:Int)=3)) 1 j.1.1 b))))))
def sJ(g:Q_g)(a:Bool)(b:i9):b36:=
 (some ((a,b,()),()))
def iQ(g:Q_g)(a:i9)(b:Int):b36:=
 ((O4 g a.L b).bind fun c=>sK g false c 0 a)
def Rq(g:Q_g)(a:Bool)(b:RT3)(c:Int)(d:i9):b36:=
 (cond (decide (c<(b.1.1.length:Int))) ((f5 b.1.1 c).bind fun e=>((b.1.1[(Int.toNat c)]?).bind fun f=>((Hq g d f).bind fun h=>sK g h.1.1 b (w64 (c+1)) h.1.2.1))) (UZ g a d))
def fD(g:Q_g)(a:Bool)(b:i9):b36:=
 (some ((a,b,()),()))
def qX(g:Q_g)(a:(List d7)):b32:=
 ((wL g a).bind fun b=>(cond (!(decide (b.1.2.1.Code=0))) (some (((l9.mk ([]:List d7) ([]:List i8) ([]:List o0) ([]:List M9) ([]:List Q3) ([]:List t8) ([]:List Int) ([]:List J0) ([]:List N4)),b.1.2.1,()),())) (Hl g a b 0 (i9.mk a b.1.1.Ms b.1.1 b.1.1.To (x8.mk 0 0 0) 0))))
def Sz(g:Q_g)(a:(List d7))(b:I7)(c:Int)(d:i9):b32:=
 (cond (decide (c<(b.1.1.As.length:Int))) ((f5 b.1.1.As c).bind fun e=>((O4 g a e.Gs).bind fun f=>((f5 b.1.1.As c).bind fun h=>((f5 f.1.1 (w64 ((f.1.1.length:Int)-1))).bind fun j=>((f.1.1[(Int.toNat (w64 ((f.1.1.length:Int)-1)))]?).bind fun k=>((qI g (i9.mk d.L d.M d.P d.T d.F h.By) k).bind fun l=>(cond (!(decide (l.1.2.1.By=0))) (cond (!l.1.1) ((f5 b.1.1.As c).bind fun m=>((Eh g l.1.2.1 12 m.Gs).bind fun n=>Hl g a b (w64 (c+1)) n.1.1)) (Hl g a b (w64 (c+1)) l.1.2.1)) (Hl g a b (w64 (c+1)) l.1.2.1)))))))) (Zc g b d))
def dD(g:Q_g)(a:I7)(b:i9):b32:=
 (cond (!(decide (b.F.Code=0))) (some (((l9.mk ([]:List d7) ([]:List i8) ([]:List o0) ([]:List M9) ([]:List Q3) ([]:List t8) ([]:List Int) ([]:List J0) ([]:List N4)),b.F,()),())) (some (((l9.mk a.1.1.No b.M a.1.1.To a.1.1.Rs a.1.1.Hs a.1.1.As a.1.1.Ss a.1.1.Vars a.1.1.Ps),(x8.mk 0 0 0),()),())))
def rY(g:Q_g)(a:(b38)):b32:=
 ((nG g a).bind fun b=>(cond (!(decide (b.1.2.1.Code=0))) (some (((l9.mk ([]:List d7) ([]:List i8) ([]:List o0) ([]:List M9) ([]:List Q3) ([]:List t8) ([]:List Int) ([]:List J0) ([]:List N4)),b.1.2.1,()),())) ((EK g b.1.1).bind fun c=>(some ((c.1.1,c.1.2.1,()),())))))
def pL(g:Q_g)(a:(b38)):Option V7:=
 (cond (decide ((a.length:Int)>2000)) (some (((l9.mk ([]:List d7) ([]:List i8) ([]:List o0) ([]:List M9) ([]:List Q3) ([]:List t8) ([]:List Int) ([]:List J0) ([]:List N4)),false,()),())) ((Zd g a).bind fun b=>(some ((b.1.1,(decide (b.1.2.1.Code=0)),()),()))))
def aG(g:Q_g)(a:u9)(b:Int):Option N2:=
 jS g b a (w64 (b+1)) ([]:List Int)
def Xr(g:Q_g)(a:Int)(b:u9)(c:Int)(d:(List Int)):Option N2:=
 ((f5 b.p_.No a).bind fun e=>(cond (decide (c≤(w64 (a+e.Cs)))) ((y8 8 d ([c]:List Int)).bind fun f=>((f5 b.p_.No c).bind fun h=>jS g a b (w64 (c+(w64 (1+h.Cs)))) f)) (LN g b d)))
def nP(g:Q_g)(a:u9)(b:(List Int)):Option N2:=
 (some ((b,()),(a,())))
def pO(g:Q_g)(a:u9)(b:Int)(c:Int)(d:Int):Option RT1:=
 ((f5 a.p_.No d).bind fun e=>((y8 24 a.c_.Is ([(i6.mk b c e.Ls)]:List i6)).bind fun f=>(some (((w64 ((w64 ((f.length:Int)-1))-a.from_)),()),((u9.mk a.p_ (l7.mk f a.c_.As a.c_.Js) a.from_ a.texts_),())))))
def Qa(g:Q_g)(a:u9):Option RT2:=
 (some (((w64 ((a.c_.Is.length:Int)-a.from_)),()),()))
def cR(g:Q_g)(a:u9)(b:Int):b3Z:=
 ((AO g a).bind fun c=>((f5 a.c_.Is (w64 (a.from_+b))).bind fun d=>((a.c_.Is[(Int.toNat (w64 (a.from_+b)))]?).bind fun e=>((a.c_.Is[(Int.toNat (w64 (a.from_+b)))]?).bind fun f=>((Q5 a.c_.Is (Int.toNat (w64 (a.from_+b))) (i6.mk f.Op c.1.1 f.Ls)).bind fun h=>(some ((()),((u9.mk a.p_ (l7.mk h a.c_.As a.c_.Js) a.from_ a.texts_),()))))))))
def rP(g:Q_g)(a:u9)(b:(b38)):Option RT1:=
 (cond (Wn eqS a.texts_ b) ((Dz eqS a.texts_ b).bind fun(c:Int)=>yU g b c true a) (yU g b 0 false a))
def Sj(g:Q_g)(a:(b38))(b:Int)(c:Bool)(d:u9):Option RT1:=
 (cond (!c) ((y8 16 d.c_.Js ([a]:List (b38))).bind fun e=>(some (((d.c_.Js.length:Int),()),((u9.mk d.p_ (l7.mk d.c_.Is d.c_.As e) d.from_ (Mi eqS d.texts_ a (d.c_.Js.length:Int))),())))) (some ((b,()),(d,()))))
def Yf(g:Q_g)(a:u9)(b:d7)(c:i8):Option tD:=
 (cond (decide (b.Ks=21)) (some ((2,b.Ns,()),(a,()))) (cond (decide (b.Ks=22)) (some ((4,b.Ns,()),(a,()))) (cond (decide (b.Ks=23)) ((AA g a b.Ds).bind fun d=>(some ((5,d.1.1,()),(d.2.1,())))) (cond (decide (b.Ks=24)) (some ((3,b.Ns,()),(a,()))) (cond (decide (b.Ks=26)) (some ((7,c.Do,()),(a,()))) (cond (decide (b.Ks=27)) (cond (decide (c.Do<0)) (some ((20,(w64 (0-c.Do)),()),(a,()))) (some ((19,c.Do,()),(a,())))) (cond (decide (b.Ks=28)) (some ((15,0,()),(a,()))) (cond (decide (b.Ks=29)) (some ((17,c.Do,()),(a,()))) (cond (decide (b.Ks=30)) (some ((9,b.Ns,()),(a,()))) (cond (decide (b.Ks=31)) (some ((10,b.Ns,()),(a,()))) (cond (decide (b.Ks=32)) ((f5 a.p_.To c.Ts).bind fun e=>(cond (decide (e.Ks=6)) (some ((22,e.Of,()),(a,()))) (some ((21,e.Of,()),(a,()))))) (some ((6,0,()),(a,()))))))))))))))
def sN(g:Q_g)(a:u9)(b:Int):b3Z:=
 ((f5 a.p_.No b).bind fun c=>((f5 a.p_.Ms b).bind fun d=>((Jm g a b).bind fun e=>(cond (decide (c.Ks=32)) ((okP (C8 1 (e.1.1.length:Int) (e.1.1.length:Int))).bind fun _=>Qm g b (x6 e.1.1 1 (e.1.1.length:Int)) c d e) (cond (decide (c.Ks=31)) (cond (decide (c.Ns=14)) (bU g b c e) (cond (decide (c.Ns=15)) (bU g b c e) (Qm g b e.1.1 c d e))) (Qm g b e.1.1 c d e))))))
def Xk(g:Q_g)(a:Int)(b:(List Int))(c:Int)(d:Int)(e:d7)(f:i8)(h:u9):b3Z:=
 (cond (decide (d<c)) ((f5 b d).bind fun j=>((X1 g h j).bind fun k=>Tp g a b c (w64 (d+1)) e f k.2.1)) (EA g a e f h))
def dU(g:Q_g)(a:Int)(b:Int)(c:F7)(d:N2):b3Z:=
 ((Q2 g c.2.1 b 0 a).bind fun e=>((f5 d.1.1 1).bind fun f=>((d.1.1[(Int.toNat 1)]?).bind fun h=>((X1 g e.2.1 h).bind fun j=>((Ma g j.2.1 e.1.1).bind fun k=>(some ((()),(k.2.1,()))))))))
def lN(g:Q_g)(a:Int)(b:d7)(c:N2):b3Z:=
 ((f5 c.1.1 0).bind fun d=>((c.1.1[(Int.toNat 0)]?).bind fun e=>((X1 g c.2.1 e).bind fun f=>(cond (decide (b.Ns=15)) (lZ g a 14 f c) (lZ g a 13 f c)))))
def rD(g:Q_g)(a:Int)(b:(List Int))(c:d7)(d:i8)(e:N2):b3Z:=
 Tp g a b (b.length:Int) 0 c d e.2.1
def oY(g:Q_g)(a:Int)(b:d7)(c:i8)(d:u9):b3Z:=
 ((uE g d b c).bind fun e=>((Q2 g e.2.1 e.1.1 e.1.2.1 a).bind fun f=>(some ((()),(f.2.1,())))))
def nK(g:Q_g)(a:u9)(b:Int)(c:(List Int)):b3Z:=
 ((f5 c 0).bind fun d=>((Jm g a d).bind fun e=>Tf g b c e 0 e.2.1))
def Wo(g:Q_g)(a:Int)(b:(List Int))(c:N2)(d:Int)(e:u9):b3Z:=
 (cond (decide (d<(c.1.1.length:Int))) ((f5 c.1.1 d).bind fun f=>((c.1.1[(Int.toNat d)]?).bind fun h=>((X1 g e h).bind fun j=>Tf g a b c (w64 (d+1)) j.2.1))) (BP g a b e))
def aF(g:Q_g)(a:Int)(b:(List Int))(c:u9):b3Z:=
 ((f5 b 1).bind fun d=>((X1 g c d).bind fun e=>((f5 b 0).bind fun f=>((f5 e.2.1.p_.Ms f).bind fun h=>((f5 b 0).bind fun j=>((f5 e.2.1.p_.No j).bind fun k=>(cond (decide (k.Ks=26)) ((Q2 g e.2.1 8 h.Do a).bind fun l=>(some ((()),(l.2.1,())))) (cond (decide (k.Ks=28)) ((f5 b 0).bind fun m=>((Q2 g e.2.1 16 0 m).bind fun n=>(some ((()),(n.2.1,()))))) (cond (decide (k.Ks=29)) ((f5 b 0).bind fun o=>((Q2 g e.2.1 18 h.Do o).bind fun p=>(some ((()),(p.2.1,()))))) (some ((()),(e.2.1,()))))))))))))
def rZ(g:Q_g)(a:u9)(b:Int):b3Z:=
 ((Jm g a b).bind fun c=>((f5 c.2.1.p_.Ms b).bind fun d=>((Q2 g c.2.1 1 d.Qs b).bind fun e=>((f5 e.2.1.p_.No b).bind fun f=>(cond (decide (f.Ks=7)) ((f5 c.1.1 1).bind fun h=>((c.1.1[(Int.toNat 1)]?).bind fun j=>((X1 g e.2.1 j).bind fun k=>((f5 k.2.1.p_.Ms b).bind fun l=>((Q2 g k.2.1 8 l.Do b).bind fun m=>(some ((()),(m.2.1,())))))))) (cond (decide (f.Ks=8)) ((EQ g e.2.1 b c.1.1).bind fun n=>(some ((()),(n.2.1,())))) (cond (decide (f.Ks=9)) ((f5 c.1.1 0).bind fun o=>((c.1.1[(Int.toNat 0)]?).bind fun p=>((X1 g e.2.1 p).bind fun q=>((Q2 g q.2.1 12 0 b).bind fun s=>((f5 c.1.1 1).bind fun t=>((c.1.1[(Int.toNat 1)]?).bind fun u=>((Ml g s.2.1 u).bind fun v=>(cond (decide ((c.1.1.length:Int)=3)) ((Q2 g v.2.1 11 0 b).bind fun w=>((Ma g w.2.1 s.1.1).bind fun y=>((f5 c.1.1 2).bind fun z=>((c.1.1[(Int.toNat 2)]?).bind fun a1=>((Ml g y.2.1 a1).bind fun b1=>uH g w.1.1 b1.2.1))))) (uH g s.1.1 v.2.1))))))))) (cond (decide (f.Ks=10)) ((f5 c.1.1 0).bind fun c1=>((c.1.1[(Int.toNat 0)]?).bind fun d1=>((X1 g e.2.1 d1).bind fun e1=>((Q2 g e1.2.1 12 0 b).bind fun f1=>((f5 c.1.1 1).bind fun h1=>((c.1.1[(Int.toNat 1)]?).bind fun j1=>((Ml g f1.2.1 j1).bind fun k1=>((Q2 g k1.2.1 11 e.1.1 b).bind fun l1=>((Ma g l1.2.1 f1.1.1).bind fun m1=>(some ((()),(m1.2.1,())))))))))))) (cond (decide (f.Ks=11)) (cond (decide ((c.1.1.length:Int)=0)) ((Q2 g e.2.1 26 0 b).bind fun n1=>(some ((()),(n1.2.1,())))) ((f5 c.1.1 0).bind fun o1=>((c.1.1[(Int.toNat 0)]?).bind fun p1=>((X1 g e.2.1 p1).bind fun q1=>((Q2 g q1.2.1 25 0 b).bind fun s1=>(some ((()),(s1.2.1,())))))))) (cond (decide (f.Ks=12)) ((f5 c.1.1 0).bind fun t1=>((c.1.1[(Int.toNat 0)]?).bind fun u1=>((X1 g e.2.1 u1).bind fun v1=>((Q2 g v1.2.1 23 0 b).bind fun w1=>(some ((()),(w1.2.1,()))))))) (cond (decide (f.Ks=13)) ((f5 c.1.1 0).bind fun y1=>((c.1.1[(Int.toNat 0)]?).bind fun z1=>((X1 g e.2.1 z1).bind fun a2=>((f5 c.1.1 0).bind fun b2=>((c.1.1[(Int.toNat 0)]?).bind fun c2=>((f5 a2.2.1.p_.Ms c2).bind fun d2=>(cond (!(decide (d2.Ts=0))) ((Q2 g a2.2.1 24 0 b).bind fun e2=>(some ((()),(e2.2.1,())))) (some ((()),(a2.2.1,())))))))))) (some ((()),(e.2.1,()))))))))))))))
def Rf(g:Q_g)(a:Int)(b:u9):b3Z:=
 ((Ma g b a).bind fun c=>(some ((()),(c.2.1,()))))
def iZ(g:Q_g)(a:u9)(b:Int):b3Z:=
 ((Jm g a b).bind fun c=>mI g c 0 c.2.1)
def Uv(g:Q_g)(a:N2)(b:Int)(c:u9):b3Z:=
 (cond (decide (b<(a.1.1.length:Int))) ((f5 a.1.1 b).bind fun d=>((a.1.1[(Int.toNat b)]?).bind fun e=>((tA g c e).bind fun f=>mI g a (w64 (b+1)) f.2.1))) (some ((()),(c,()))))
def lH(g:Q_g)(a:l9):b30:=
 Xu g a 0 (u9.mk a (l7.mk ([]:List i6) ([]:List y7) ([]:List (b38))) 0 ([]:List ((b38) × Int)))
def Vm(g:Q_g)(a:l9)(b:Int)(c:u9):b30:=
 (cond (decide (b<(a.As.length:Int))) ((f5 a.As b).bind fun d=>((Jm g (u9.mk c.p_ c.c_ (c.c_.Is.length:Int) c.texts_) d.Gs).bind fun e=>((f5 e.1.1 (w64 ((e.1.1.length:Int)-1))).bind fun f=>((e.1.1[(Int.toNat (w64 ((e.1.1.length:Int)-1)))]?).bind fun h=>((Ml g e.2.1 h).bind fun j=>((Q2 g j.2.1 26 0 d.Gs).bind fun k=>((AO g k.2.1).bind fun l=>(cond (!(decide (d.By=0))) (kM g a b k l d 1) (kM g a b k l d 0))))))))) (Zy g c))
def lT(g:Q_g)(a:l9)(b:Int)(c:RT1)(d:RT2)(e:t8)(f:Int):b30:=
 ((y8 40 c.2.1.c_.As ([(y7.mk c.2.1.from_ d.1.1 e.Es e.Ss f)]:List y7)).bind fun h=>FH g a b c h)
def fB(g:Q_g)(a:u9):b30:=
 (some ((a.c_,()),()))
def gV(g:Q_g)(a:l9)(b:Int)(c:RT1)(d:(List y7)):b30:=
 Xu g a (w64 (b+1)) (u9.mk c.2.1.p_ (l7.mk c.2.1.c_.Is d c.2.1.c_.Js) c.2.1.from_ c.2.1.texts_)
def KR(g:Q_g)(a:l7)(b:Int):Option Rb:=
 (cT a b).bind fun r=>(some ((r,()),()):Option Rb)
def UP(g:Q_g):Option RT0:=
 ((Zd g ([102,110,32,109,97,105,110,40,41,32,123,32,112,114,105,110,116,32,49,32,43,32,50,59,32,125]:b38)).bind fun a=>((fV g a.1.1).bind fun b=>((b2v g b.1.1 0).bind fun c=>(some (((decide (c.1.1=([48,32,112,111,105,110,116,32,48,10,49,32,105,110,116,32,49,10,50,32,105,110,116,32,50,10,51,32,98,105,110,32,49,10,52,32,112,114,105,110,116,10,53,32,108,101,97,118,101,10]:b38))),()),())))))
def cP(g:Q_g)(a:l7)(b:Int):b3Y:=
 Lg g b a 0
def Wx(g:Q_g)(a:Int)(b:l7)(c:Int):b3Y:=
 (cond (decide (c<(b.As.length:Int))) ((f5 b.As c).bind fun d=>((okP (C8 d.At (w64 (d.At+d.If)) (b.Is.length:Int))).bind fun _=>Hx g a c b c d 0)) (RK g))
def Kz(g:Q_g)(a:Int)(b:Int)(c:l7)(d:Int)(e:y7)(f:Int):b3Y:=
 (cond (decide (f<((x6 c.Is e.At (w64 (e.At+e.If))).length:Int))) ((f5 (x6 c.Is e.At (w64 (e.At+e.If))) f).bind fun h=>(cond (decide (h.Op=1)) (cond (decide (h.A=a)) (some ((b,f,()),())) (Hx g a b c d e (w64 (f+1)))) (Hx g a b c d e (w64 (f+1))))) (EO g a c d))
def nI(g:Q_g):b3Y:=
 (some (((-1),(-1),()),()))
def pF(g:Q_g)(a:Int)(b:l7)(c:Int):b3Y:=
 Lg g a b (w64 (c+1))
def sR(g:Q_g)(a:(b38)):Option RT0:=
 ((zI g a).bind fun b=>(cond (!b.1.2.1) ((vJ g).bind fun c=>(some ((c.1.1,()),()))) ((fV g b.1.1).bind fun d=>lI g 0 0 b d)))
def Xg(g:Q_g)(a:Int)(b:Int)(c:V7)(d:G2):Option RT0:=
 (cond (decide (b<(d.1.1.As.length:Int))) ((f5 d.1.1.As b).bind fun e=>((d.1.1.As[(Int.toNat b)]?).bind fun f=>(cond (decide (f.At<0)) (some ((false,()),())) (cond (decide (f.If<0)) (some ((false,()),())) (cond (decide (f.At>(d.1.1.Is.length:Int))) (some ((false,()),())) (cond (decide (f.If>(w64 ((d.1.1.Is.length:Int)-f.At)))) (some ((false,()),())) (Ot g a b 0 c f d))))))) (OX g a c d))
def Ur(g:Q_g)(a:Int)(b:Int)(c:Int)(d:V7)(e:y7)(f:G2):Option RT0:=
 (cond (decide (c<e.If)) ((f5 f.1.1.Is (w64 (e.At+c))).bind fun h=>((f.1.1.Is[(Int.toNat (w64 (e.At+c)))]?).bind fun j=>(cond (!(decide (j.Op=1))) (Ot g a b (w64 (c+1)) d e f) (cond (decide (a≥(d.1.1.Ps.length:Int))) (some ((false,()),())) (cond (!(decide (j.A=a))) (some ((false,()),())) ((f5 d.1.1.Ps a).bind fun k=>(cond (!(decide (k.Fn=b))) (some ((false,()),())) ((f5 d.1.1.Ps a).bind fun l=>(cond (!(decide (l.Ls=j.Ls))) (some ((false,()),())) ((Mz g f.1.1 a).bind fun m=>(cond (!(decide (m.1.1=b))) (some ((false,()),())) (cond (!(decide (m.1.2.1=c))) (some ((false,()),())) (Ot g (w64 (a+1)) b (w64 (c+1)) d e f))))))))))))) (xI g a b d f))
def pS(g:Q_g)(a:Int)(b:V7)(c:G2):Option RT0:=
 ((Mz g c.1.1 a).bind fun d=>(cond (decide (a=(b.1.1.Ps.length:Int))) (cond (decide (d.1.1=(-1))) (cond (decide (d.1.2.1=(-1))) ((vJ g).bind fun e=>(some ((e.1.1,()),()))) (some ((false,()),()))) (some ((false,()),()))) (some ((false,()),()))))
def pP(g:Q_g)(a:Int)(b:Int)(c:V7)(d:G2):Option RT0:=
 lI g a (w64 (b+1)) c d
def pK(g:Q_g)(a:(List i6))(b:Int):b33:=
 iD g a b 0 ([]:List i6)
def Tw(g:Q_g)(a:(List i6))(b:Int)(c:Int)(d:(List i6)):b33:=
 (cond (decide (c<(a.length:Int))) ((f5 a c).bind fun e=>(cond (decide (e.Op≥11)) (cond (decide (e.Op≤14)) (Sk g a b c e (w64 (e.A+b)) d) (Sk g a b c e e.A d)) (Sk g a b c e e.A d))) (UL g d))
def qC(g:Q_g)(a:(List i6))(b:Int)(c:Int)(d:i6)(e:Int)(f:(List i6)):b33:=
 ((y8 24 f ([(i6.mk d.Op e d.Ls)]:List i6)).bind fun h=>NQ g a b c h)
def iU(g:Q_g)(a:(List i6)):b33:=
 (some ((a,()),()))
def pZ(g:Q_g)(a:(List i6))(b:Int)(c:Int)(d:(List i6)):b33:=
 iD g a b (w64 (c+1)) d
def kI(g:Q_g)(a:(List i6))(b:(List i6)):b33:=
 ((y8 24 ([]:List i6) a).bind fun c=>((BO g b (a.length:Int)).bind fun d=>((y8 24 c d.1.1).bind fun e=>(some ((e,()),())))))
def XY(g:Q_g)(a:B8)(b:Int)(c:Int)(d:Int):b33:=
 ((f5 a.P.No d).bind fun e=>(some ((([(i6.mk b c e.Ls)]:List i6),()),())))
def JY(g:Q_g)(a:B8)(b:(List Int)):b3X:=
 NN g b 0 a ([]:List i6)
def NX(g:Q_g)(a:(List Int))(b:Int)(c:B8)(d:(List i6)):b3X:=
 (cond (decide (b<(a.length:Int))) ((f5 a b).bind fun e=>((Cc g c e).bind fun f=>((E8 g d f.1.1).bind fun h=>NN g a (w64 (b+1)) f.1.2.1 h.1.1))) (b1S g c d))
def IY(g:Q_g)(a:B8)(b:(List i6)):b3X:=
 (some ((b,a,()),()))
def IG(g:Q_g)(a:B8)(b:Int):b3X:=
 ((f5 a.P.No b).bind fun c=>((O4 g a.P.No b).bind fun d=>(cond (decide (c.Ks=31)) (cond (decide (c.Ns≥14)) ((f5 d.1.1 0).bind fun e=>((d.1.1[(Int.toNat 0)]?).bind fun f=>((Cc g a f).bind fun h=>((f5 d.1.1 1).bind fun j=>((d.1.1[(Int.toNat 1)]?).bind fun k=>((Cc g h.1.2.1 k).bind fun l=>((H4 g l.1.2.1 (IntKind.wrap .u8 (w64 (c.Ns-1))) (w64 (1+(l.1.1.length:Int))) b).bind fun m=>((E8 g h.1.1 m.1.1).bind fun n=>((E8 g n.1.1 l.1.1).bind fun o=>(some ((o.1.1,l.1.2.1,()),()))))))))))) (RR g b a c d)) (RR g b a c d))))
def XT(g:Q_g)(a:C2)(b:(List (b38)))(c:(List i6)):b3X:=
 ((E8 g a.1.1 c).bind fun d=>(some ((d.1.1,(B8.mk a.1.2.1.P b),()),())))
def KT(g:Q_g)(a:Int)(b:Int)(c:C2)(d:Int)(e:d7):b3X:=
 (cond (decide (d<(c.1.2.1.Js.length:Int))) ((f5 c.1.2.1.Js d).bind fun f=>(cond (decide (f=e.Ds)) (uV g a d c (w64 (d+1)) e) (uV g a b c (w64 (d+1)) e))) (a1o g a b c e))
end
end
end
end Go.Proofs.YtihbbcealnnpiaaGreatDoor
