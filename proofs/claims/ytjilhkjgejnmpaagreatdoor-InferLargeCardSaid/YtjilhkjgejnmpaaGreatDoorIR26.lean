import Derived.Test.YtjilhkjgejnmpaaGreatDoorIDb
set_option linter.all false
noncomputable section
/- Runs. -/
namespace Go.Proofs.YtjilhkjgejnmpaaGreatDoor
open Go.J
theorem r33:runP (envL Tryz.prog pol [(106,peekS [e1,e2,e5,e6]),(149,scalS (sizeV 40)),(173,scalS (size16V 40)),(58,outS faultSp),(182,outS isSp)]) 2000 44 e33.1.1 e33.1.2=some e33.2:=by kernel_rfl
theorem r158:runP (envL Tryz.prog pol [(149,scalS (sizeV 40)),(173,scalS (size16V 40)),(58,outS faultSp),(182,outS isSp)]) 2000 153 e158.1.1 e158.1.2=some e158.2:=by kernel_rfl
theorem r159:runP (envL Tryz.prog pol [(149,scalS (sizeV 40)),(173,scalS (size16V 40)),(58,outS faultSp),(182,outS isSp)]) 2000 153 e159.1.1 e159.1.2=some e159.2:=by kernel_rfl
theorem r183:runP (envL Tryz.prog pol [(149,scalS (sizeV 40)),(173,scalS (size16V 40)),(58,outS faultSp),(182,outS isSp)]) 2000 64 e183.1.1 e183.1.2=some e183.2:=by kernel_rfl
theorem r193:runP (envL Tryz.prog pol [(149,scalS (sizeV 40)),(173,scalS (size16V 40)),(58,outS faultSp),(182,outS isSp)]) 2000 64 e193.1.1 e193.1.2=some e193.2:=by kernel_rfl
theorem r258:runP (envL Tryz.prog pol [(149,scalS (sizeV 40)),(173,scalS (size16V 40)),(58,outS faultSp),(182,outS isSp)]) 2000 150 e258.1.1 e258.1.2=some e258.2:=by kernel_rfl
theorem r259:runP (envL Tryz.prog pol [(149,scalS (sizeV 40)),(173,scalS (size16V 40)),(58,outS faultSp),(182,outS isSp)]) 2000 150 e259.1.1 e259.1.2=some e259.2:=by kernel_rfl
theorem r260:runP (envL Tryz.prog pol [(149,scalS (sizeV 40)),(173,scalS (size16V 40)),(58,outS faultSp),(182,outS isSp)]) 2000 150 e260.1.1 e260.1.2=some e260.2:=by kernel_rfl
theorem r626:runP (envL Tryz.prog pol [(149,scalS (sizeV 40)),(173,scalS (size16V 40)),(58,outS faultSp),(182,outS isSp)]) 2000 150 e626.1.1 e626.1.2=some e626.2:=by kernel_rfl
theorem r659:runP (envL Tryz.prog pol [(149,scalS (sizeV 40)),(173,scalS (size16V 40)),(58,outS faultSp),(182,outS isSp)]) 2000 150 e659.1.1 e659.1.2=some e659.2:=by kernel_rfl
theorem r660:runP (envL Tryz.prog pol [(149,scalS (sizeV 40)),(173,scalS (size16V 40)),(58,outS faultSp),(182,outS isSp)]) 2000 150 e660.1.1 e660.1.2=some e660.2:=by kernel_rfl
theorem r695:runP (envL Tryz.prog pol [(149,scalS (sizeV 40)),(173,scalS (size16V 40)),(58,outS faultSp),(182,outS isSp)]) 2000 150 e695.1.1 e695.1.2=some e695.2:=by kernel_rfl
theorem r696:runP (envL Tryz.prog pol [(149,scalS (sizeV 40)),(173,scalS (size16V 40)),(58,outS faultSp),(182,outS isSp)]) 2000 150 e696.1.1 e696.1.2=some e696.2:=by kernel_rfl
theorem r731:runP (envL Tryz.prog pol [(149,scalS (sizeV 40)),(173,scalS (size16V 40)),(58,outS faultSp),(182,outS isSp)]) 2000 150 e731.1.1 e731.1.2=some e731.2:=by kernel_rfl
theorem r732:runP (envL Tryz.prog pol [(149,scalS (sizeV 40)),(173,scalS (size16V 40)),(58,outS faultSp),(182,outS isSp)]) 2000 150 e732.1.1 e732.1.2=some e732.2:=by kernel_rfl
theorem r769:runP (envL Tryz.prog pol [(149,scalS (sizeV 40)),(173,scalS (size16V 40)),(58,outS faultSp),(182,outS isSp)]) 2000 150 e769.1.1 e769.1.2=some e769.2:=by kernel_rfl
theorem r770:runP (envL Tryz.prog pol [(149,scalS (sizeV 40)),(173,scalS (size16V 40)),(58,outS faultSp),(182,outS isSp)]) 2000 150 e770.1.1 e770.1.2=some e770.2:=by kernel_rfl
theorem r808:runP (envL Tryz.prog pol [(149,scalS (sizeV 40)),(173,scalS (size16V 40)),(58,outS faultSp),(182,outS isSp)]) 2000 150 e808.1.1 e808.1.2=some e808.2:=by kernel_rfl
theorem r809:runP (envL Tryz.prog pol [(149,scalS (sizeV 40)),(173,scalS (size16V 40)),(58,outS faultSp),(182,outS isSp)]) 2000 150 e809.1.1 e809.1.2=some e809.2:=by kernel_rfl
theorem r850:runP (envL Tryz.prog pol [(149,scalS (sizeV 40)),(173,scalS (size16V 40)),(58,outS faultSp),(182,outS isSp)]) 2000 150 e850.1.1 e850.1.2=some e850.2:=by kernel_rfl
theorem r851:runP (envL Tryz.prog pol [(149,scalS (sizeV 40)),(173,scalS (size16V 40)),(58,outS faultSp),(182,outS isSp)]) 2000 150 e851.1.1 e851.1.2=some e851.2:=by kernel_rfl
theorem r892:runP (envL Tryz.prog pol [(149,scalS (sizeV 40)),(173,scalS (size16V 40)),(58,outS faultSp),(182,outS isSp)]) 2000 150 e892.1.1 e892.1.2=some e892.2:=by kernel_rfl
theorem r893:runP (envL Tryz.prog pol [(149,scalS (sizeV 40)),(173,scalS (size16V 40)),(58,outS faultSp),(182,outS isSp)]) 2000 150 e893.1.1 e893.1.2=some e893.2:=by kernel_rfl
theorem r938:runP (envL Tryz.prog pol [(149,scalS (sizeV 40)),(173,scalS (size16V 40)),(58,outS faultSp),(182,outS isSp)]) 2000 150 e938.1.1 e938.1.2=some e938.2:=by kernel_rfl
theorem r939:runP (envL Tryz.prog pol [(149,scalS (sizeV 40)),(173,scalS (size16V 40)),(58,outS faultSp),(182,outS isSp)]) 2000 150 e939.1.1 e939.1.2=some e939.2:=by kernel_rfl
theorem r963:runP (envL Tryz.prog pol [(149,scalS (sizeV 40)),(173,scalS (size16V 40)),(58,outS faultSp),(182,outS isSp)]) 2000 91 e963.1.1 e963.1.2=some e963.2:=by kernel_rfl
theorem r964:runP (envL Tryz.prog pol [(149,scalS (sizeV 40)),(173,scalS (size16V 40)),(58,outS faultSp),(182,outS isSp)]) 2000 91 e964.1.1 e964.1.2=some e964.2:=by kernel_rfl
theorem r965:runP (envL Tryz.prog pol [(149,scalS (sizeV 40)),(173,scalS (size16V 40)),(58,outS faultSp),(182,outS isSp)]) 2000 91 e965.1.1 e965.1.2=some e965.2:=by kernel_rfl
theorem r982:runP (envL Tryz.prog pol [(149,scalS (sizeV 40)),(173,scalS (size16V 40)),(58,outS faultSp),(182,outS isSp)]) 2000 90 e982.1.1 e982.1.2=some e982.2:=by kernel_rfl
theorem r1034:runP (envL Tryz.prog pol [(149,scalS (sizeV 40)),(173,scalS (size16V 40)),(58,outS faultSp),(182,outS isSp)]) 2000 90 e1034.1.1 e1034.1.2=some e1034.2:=by kernel_rfl
theorem r1044:runP (envL Tryz.prog pol [(149,scalS (sizeV 40)),(173,scalS (size16V 40)),(58,outS faultSp),(182,outS isSp)]) 2000 90 e1044.1.1 e1044.1.2=some e1044.2:=by kernel_rfl
theorem r1045:runP (envL Tryz.prog pol [(149,scalS (sizeV 40)),(173,scalS (size16V 40)),(58,outS faultSp),(182,outS isSp)]) 2000 90 e1045.1.1 e1045.1.2=some e1045.2:=by kernel_rfl
theorem r1048:runP (envL Tryz.prog pol [(149,scalS (sizeV 40)),(173,scalS (size16V 40)),(58,outS faultSp),(182,outS isSp)]) 2000 91 e1048.1.1 e1048.1.2=some e1048.2:=by kernel_rfl
theorem r1049:runP (envL Tryz.prog pol [(149,scalS (sizeV 40)),(173,scalS (size16V 40)),(58,outS faultSp),(182,outS isSp)]) 2000 91 e1049.1.1 e1049.1.2=some e1049.2:=by kernel_rfl
theorem r1057:runP (envL Tryz.prog pol [(149,scalS (sizeV 40)),(173,scalS (size16V 40)),(58,outS faultSp),(182,outS isSp)]) 2000 90 e1057.1.1 e1057.1.2=some e1057.2:=by kernel_rfl
theorem r1058:runP (envL Tryz.prog pol [(149,scalS (sizeV 40)),(173,scalS (size16V 40)),(58,outS faultSp),(182,outS isSp)]) 2000 90 e1058.1.1 e1058.1.2=some e1058.2:=by kernel_rfl
theorem r1059:runP (envL Tryz.prog pol [(149,scalS (sizeV 40)),(173,scalS (size16V 40)),(58,outS faultSp),(182,outS isSp)]) 2000 90 e1059.1.1 e1059.1.2=some e1059.2:=by kernel_rfl
theorem r1063:runP (envL Tryz.prog pol [(149,scalS (sizeV 40)),(173,scalS (size16V 40)),(58,outS faultSp),(182,outS isSp)]) 2000 91 e1063.1.1 e1063.1.2=some e1063.2:=by kernel_rfl
theorem r1064:runP (envL Tryz.prog pol [(149,scalS (sizeV 40)),(173,scalS (size16V 40)),(58,outS faultSp),(182,outS isSp)]) 2000 91 e1064.1.1 e1064.1.2=some e1064.2:=by kernel_rfl
theorem r1074:runP (envL Tryz.prog pol [(149,scalS (sizeV 40)),(173,scalS (size16V 40)),(58,outS faultSp),(182,outS isSp)]) 2000 90 e1074.1.1 e1074.1.2=some e1074.2:=by kernel_rfl
theorem r1075:runP (envL Tryz.prog pol [(149,scalS (sizeV 40)),(173,scalS (size16V 40)),(58,outS faultSp),(182,outS isSp)]) 2000 90 e1075.1.1 e1075.1.2=some e1075.2:=by kernel_rfl
theorem r1076:runP (envL Tryz.prog pol [(149,scalS (sizeV 40)),(173,scalS (size16V 40)),(58,outS faultSp),(182,outS isSp)]) 2000 90 e1076.1.1 e1076.1.2=some e1076.2:=by kernel_rfl
theorem r1077:runP (envL Tryz.prog pol [(149,scalS (sizeV 40)),(173,scalS (size16V 40)),(58,outS faultSp),(182,outS isSp)]) 2000 90 e1077.1.1 e1077.1.2=some e1077.2:=by kernel_rfl
theorem r1082:runP (envL Tryz.prog pol [(149,scalS (sizeV 40)),(173,scalS (size16V 40)),(58,outS faultSp),(182,outS isSp)]) 2000 91 e1082.1.1 e1082.1.2=some e1082.2:=by kernel_rfl
theorem r1083:runP (envL Tryz.prog pol [(149,scalS (sizeV 40)),(173,scalS (size16V 40)),(58,outS faultSp),(182,outS isSp)]) 2000 91 e1083.1.1 e1083.1.2=some e1083.2:=by kernel_rfl
theorem r1095:runP (envL Tryz.prog pol [(149,scalS (sizeV 40)),(173,scalS (size16V 40)),(58,outS faultSp),(182,outS isSp)]) 2000 90 e1095.1.1 e1095.1.2=some e1095.2:=by kernel_rfl
theorem r1097:runP (envL Tryz.prog pol [(149,scalS (sizeV 40)),(173,scalS (size16V 40)),(58,outS faultSp),(182,outS isSp)]) 2000 90 e1097.1.1 e1097.1.2=some e1097.2:=by kernel_rfl
theorem r1098:runP (envL Tryz.prog pol [(149,scalS (sizeV 40)),(173,scalS (size16V 40)),(58,outS faultSp),(182,outS isSp)]) 2000 90 e1098.1.1 e1098.1.2=some e1098.2:=by kernel_rfl
theorem r1105:runP (envL Tryz.prog pol [(149,scalS (sizeV 40)),(173,scalS (size16V 40)),(58,outS faultSp),(182,outS isSp)]) 2000 91 e1105.1.1 e1105.1.2=some e1105.2:=by kernel_rfl
theorem r1106:runP (envL Tryz.prog pol [(149,scalS (sizeV 40)),(173,scalS (size16V 40)),(58,outS faultSp),(182,outS isSp)]) 2000 91 e1106.1.1 e1106.1.2=some e1106.2:=by kernel_rfl
theorem r1122:runP (envL Tryz.prog pol [(149,scalS (sizeV 40)),(173,scalS (size16V 40)),(58,outS faultSp),(182,outS isSp)]) 2000 90 e1122.1.1 e1122.1.2=some e1122.2:=by kernel_rfl
theorem r1123:runP (envL Tryz.prog pol [(149,scalS (sizeV 40)),(173,scalS (size16V 40)),(58,outS faultSp),(182,outS isSp)]) 2000 90 e1123.1.1 e1123.1.2=some e1123.2:=by kernel_rfl
theorem r1130:runP (envL Tryz.prog pol [(149,scalS (sizeV 40)),(173,scalS (size16V 40)),(58,outS faultSp),(182,outS isSp)]) 2000 91 e1130.1.1 e1130.1.2=some e1130.2:=by kernel_rfl
theorem r1131:runP (envL Tryz.prog pol [(149,scalS (sizeV 40)),(173,scalS (size16V 40)),(58,outS faultSp),(182,outS isSp)]) 2000 91 e1131.1.1 e1131.1.2=some e1131.2:=by kernel_rfl
theorem r1147:runP (envL Tryz.prog pol [(149,scalS (sizeV 40)),(173,scalS (size16V 40)),(58,outS faultSp),(182,outS isSp)]) 2000 90 e1147.1.1 e1147.1.2=some e1147.2:=by kernel_rfl
theorem r1148:runP (envL Tryz.prog pol [(149,scalS (sizeV 40)),(173,scalS (size16V 40)),(58,outS faultSp),(182,outS isSp)]) 2000 90 e1148.1.1 e1148.1.2=some e1148.2:=by kernel_rfl
theorem r1155:runP (envL Tryz.prog pol [(149,scalS (sizeV 40)),(173,scalS (size16V 40)),(58,outS faultSp),(182,outS isSp)]) 2000 91 e1155.1.1 e1155.1.2=some e1155.2:=by kernel_rfl
theorem r1156:runP (envL Tryz.prog pol [(149,scalS (sizeV 40)),(173,scalS (size16V 40)),(58,outS faultSp),(182,outS isSp)]) 2000 91 e1156.1.1 e1156.1.2=some e1156.2:=by kernel_rfl
theorem r1172:runP (envL Tryz.prog pol [(149,scalS (sizeV 40)),(173,scalS (size16V 40)),(58,outS faultSp),(182,outS isSp)]) 2000 90 e1172.1.1 e1172.1.2=some e1172.2:=by kernel_rfl
theorem r1173:runP (envL Tryz.prog pol [(149,scalS (sizeV 40)),(173,scalS (size16V 40)),(58,outS faultSp),(182,outS isSp)]) 2000 90 e1173.1.1 e1173.1.2=some e1173.2:=by kernel_rfl
theorem r1180:runP (envL Tryz.prog pol [(149,scalS (sizeV 40)),(173,scalS (size16V 40)),(58,outS faultSp),(182,outS isSp)]) 2000 91 e1180.1.1 e1180.1.2=some e1180.2:=by kernel_rfl
theorem r1181:runP (envL Tryz.prog pol [(149,scalS (sizeV 40)),(173,scalS (size16V 40)),(58,outS faultSp),(182,outS isSp)]) 2000 91 e1181.1.1 e1181.1.2=some e1181.2:=by kernel_rfl
theorem r1197:runP (envL Tryz.prog pol [(149,scalS (sizeV 40)),(173,scalS (size16V 40)),(58,outS faultSp),(182,outS isSp)]) 2000 90 e1197.1.1 e1197.1.2=some e1197.2:=by kernel_rfl
theorem r1198:runP (envL Tryz.prog pol [(149,scalS (sizeV 40)),(173,scalS (size16V 40)),(58,outS faultSp),(182,outS isSp)]) 2000 90 e1198.1.1 e1198.1.2=some e1198.2:=by kernel_rfl
theorem r1205:runP (envL Tryz.prog pol [(149,scalS (sizeV 40)),(173,scalS (size16V 40)),(58,outS faultSp),(182,outS isSp)]) 2000 91 e1205.1.1 e1205.1.2=some e1205.2:=by kernel_rfl
theorem r1206:runP (envL Tryz.prog pol [(149,scalS (sizeV 40)),(173,scalS (size16V 40)),(58,outS faultSp),(182,outS isSp)]) 2000 91 e1206.1.1 e1206.1.2=some e1206.2:=by kernel_rfl
theorem r1222:runP (envL Tryz.prog pol [(149,scalS (sizeV 40)),(173,scalS (size16V 40)),(58,outS faultSp),(182,outS isSp)]) 2000 90 e1222.1.1 e1222.1.2=some e1222.2:=by kernel_rfl
theorem r1223:runP (envL Tryz.prog pol [(149,scalS (sizeV 40)),(173,scalS (size16V 40)),(58,outS faultSp),(182,outS isSp)]) 2000 90 e1223.1.1 e1223.1.2=some e1223.2:=by kernel_rfl
theorem r1230:runP (envL Tryz.prog pol [(149,scalS (sizeV 40)),(173,scalS (size16V 40)),(58,outS faultSp),(182,outS isSp)]) 2000 91 e1230.1.1 e1230.1.2=some e1230.2:=by kernel_rfl
theorem r1231:runP (envL Tryz.prog pol [(149,scalS (sizeV 40)),(173,scalS (size16V 40)),(58,outS faultSp),(182,outS isSp)]) 2000 91 e1231.1.1 e1231.1.2=some e1231.2:=by kernel_rfl
theorem r1247:runP (envL Tryz.prog pol [(149,scalS (sizeV 40)),(173,scalS (size16V 40)),(58,outS faultSp),(182,outS isSp)]) 2000 90 e1247.1.1 e1247.1.2=some e1247.2:=by kernel_rfl
theorem r1248:runP (envL Tryz.prog pol [(149,scalS (sizeV 40)),(173,scalS (size16V 40)),(58,outS faultSp),(182,outS isSp)]) 2000 90 e1248.1.1 e1248.1.2=some e1248.2:=by kernel_rfl
theorem r1255:runP (envL Tryz.prog pol [(149,scalS (sizeV 40)),(173,scalS (size16V 40)),(58,outS faultSp),(182,outS isSp)]) 2000 91 e1255.1.1 e1255.1.2=some e1255.2:=by kernel_rfl
theorem r1256:runP (envL Tryz.prog pol [(149,scalS (sizeV 40)),(173,scalS (size16V 40)),(58,outS faultSp),(182,outS isSp)]) 2000 91 e1256.1.1 e1256.1.2=some e1256.2:=by kernel_rfl
theorem r1272:runP (envL Tryz.prog pol [(149,scalS (sizeV 40)),(173,scalS (size16V 40)),(58,outS faultSp),(182,outS isSp)]) 2000 90 e1272.1.1 e1272.1.2=some e1272.2:=by kernel_rfl
theorem r1273:runP (envL Tryz.prog pol [(149,scalS (sizeV 40)),(173,scalS (size16V 40)),(58,outS faultSp),(182,outS isSp)]) 2000 90 e1273.1.1 e1273.1.2=some e1273.2:=by kernel_rfl
theorem r1280:runP (envL Tryz.prog pol [(149,scalS (sizeV 40)),(173,scalS (size16V 40)),(58,outS faultSp),(182,outS isSp)]) 2000 91 e1280.1.1 e1280.1.2=some e1280.2:=by kernel_rfl
theorem r1281:runP (envL Tryz.prog pol [(149,scalS (sizeV 40)),(173,scalS (size16V 40)),(58,outS faultSp),(182,outS isSp)]) 2000 91 e1281.1.1 e1281.1.2=some e1281.2:=by kernel_rfl
end Go.Proofs.YtjilhkjgejnmpaaGreatDoor
